/-
  Merged: RebP, ReIs, FoPl, ReLi, ReOw, MeP, Own, Lift, InP, Ins, MadeO, MadeR, Made, Apps, TAwk, May, MayR, RefMay, TName, TMay, TMayC, TMayR, Fine, Can, SamP, LvSub, LvSb2, LiP, Bar, LvCp, InsS, RMay.
-/
import Derived.Deep.AppendLies
import Derived.Test.YtdboloabpjmgaaaMSpines2
namespace Go.Proofs.Ytdboloabpjmgaaa
open Go.RowKit Go.Proofs.YtdboloabpjmgaaaW.PrintWords Go.RegionInvYtdboloabpjmgaaa Go.RegionEYtdboloabpjmgaaa

def rebP (RF:Tm→Int→Tm) (t:Tm) (b:Int):Tm:=
 if leafT t=true then RF t b else .mk t.kind 0 noName (.mk 0 0 []) [] ((List.finRange (nK t)).map fun i=>rebP RF (kidF t i) (b+moreZ t i))
termination_by SizeOf.sizeOf t
decreasing_by exact kidF_lt t i
def rebKids (RF:Tm→Int→Tm) (t:Tm) (b:Int) (xs:List (Fin (nK t))):List Tm:=xs.map fun i=>rebP RF (kidF t i) (b+moreZ t i)
theorem reb_leaf {RF:Tm→Int→Tm} {t:Tm} {b:Int} (h:leafT t=true):rebP RF t b=RF t b:=by rw [rebP,if_pos h]
theorem reb_node {RF:Tm→Int→Tm} {t:Tm} {b:Int} (h:leafT t=false):rebP RF t b=.mk t.kind 0 noName (.mk 0 0 []) [] (rebKids RF t b (List.finRange (nK t))):=by
 rw [rebP,if_neg (by rw [h];decide)];rfl
theorem rebKids_snoc (RF:Tm→Int→Tm) (t:Tm) (b:Int) (pre:List (Fin (nK t))) (x:Fin (nK t)):rebKids RF t b (pre ++ [x])=rebKids RF t b pre ++ [rebP RF (kidF t x) (b+moreZ t x)]:=by
 unfold rebKids;rw [List.map_append];rfl
theorem rebKids_len (RF:Tm→Int→Tm) (t:Tm) (b:Int) (pre:List (Fin (nK t))):(rebKids RF t b pre).length=pre.length:=by unfold rebKids;rw [List.length_map]
theorem row_no {X:World} {r:Nat} (h:∃ o,X.heap[r]?=some o∧o.isCells=false):¬ CellsB X r:=by
 rintro ⟨cs,t,fr,e⟩
 obtain ⟨o,ho,hc⟩:=h
 rw [e] at ho
 cases ho
 cases hc
theorem own_cells {w:World} {base n:Nat} {e:TypeId} {size:Nat} {v:Value} {xs:List Value} {k:Nat} {o:Obj} (h:w.ownsRow base e size v n xs) (hk:v.ownBlock=some k) (ho:w.heap[k]?=some o) (hc:o.isCells=false):False:=by
 rcases h.2 with ⟨rfl,_⟩ | ⟨g,cap,cur,rfl,_,hh,_⟩
 ·simp [Value.ownBlock] at hk
 ·have:g=k:=by simpa [Value.ownBlock] using hk
  subst this
  rw [ho] at hh
  cases hh
  cases hc
theorem TmS.stay {w w':World} {S:Nat→Prop} {B:Nat} {p:Pl} {t:Tm} (h:TmS w S p t) (hS:∀ k,S k→k<B) (hb:Below B w w'):TmS w' S p t:=h.same fun k hk _=>hb.block k (hS k hk)
theorem reb_round {W w':World} {S:Nat→Prop} {g0 lo Ob L c:Nat} {A:Option Addr} {xs:List Tm} {x':Tm} {qq:Nat→Pl} {cells:List Value} {V:Value} {O12:Nat→Prop} {i1 i2:Nat} (hL:xs.length=L)
  (hk:∀ (i:Nat) (x:Tm),xs[i]?=some x→(∀ (j:Nat) (v:Value),(tmC (qq i) x)[j]?=some v→cells[i * 8+j]?=some v)∧TmS W (SetL S lo (.slice A L c)) (qq i) x)
  (hown:W.ownsRow lo 28 8 (.slice A L c) L cells) (hch:Chg (fun k=>(fun k=>(Value.slice A L c).ownBlock=some k) k∨(fun k=>k=Ob) k) W w')
  (h12:RowT S lo L cells x' V w' O12) (hO:∀ k,O12 k→k<w'.heap.size∧¬ Fix W (est2 i1 i2 (fun k=>(Value.slice A L c).ownBlock=some k) (fun k=>k=Ob)) k)
  (hOb:¬ O12 Ob) (hg:g0≤Ob) (hlo:Ob<lo) (hlz:lo≤W.heap.size) (hS:∀ k,S k→k<g0):KidsT w' S lo V (xs ++ [x']):=by
 obtain ⟨q',hown',hVO,ht⟩:=h12
 have hO2:∀ k,O12 k→lo≤k:=fun k hk=>by
  rcases Nat.lt_or_ge k lo with h | h
  ·refine absurd (est2_fix (by omega) (fun e=>?_) (fun e=>?_)) (hO k hk).2
   ·have:=own_base hown k e;omega
   ·have e:k=Ob:=e
    exact hOb (e ▸ hk)
  ·exact h
 have keep:∀ {p:Pl} {y:Tm},TmS W (SetL S lo (.slice A L c)) p y→TmS w' (SetL S lo V) p y:=by
  intro p y h
  have h1:TmS W (fun b=>SetL S lo (.slice A L c) b∧b<W.heap.size) p y:=h.mono fun k hk hz=>⟨hk,hz⟩
  refine (h1.same fun k hs hz=>hch.block k hz fun e=>?_).mono fun k hs _=>hs.1.imp id fun h=>⟨h.1,fun e=>?_⟩
  ·rcases e with e | e
   ·rcases hs.1 with h | h
    ·have:=hS _ h;have:=own_base hown k e;omega
    ·exact h.2 e
   ·have e:k=Ob:=e
    rcases hs.1 with h | h
    ·have:=hS _ h;omega
    ·omega
  ·refine (hO k (hVO k e)).2 (est2_fix hs.2 (fun e2=>h.2 e2) (fun e2=>?_))
   have e2:k=Ob:=e2
   omega
 have hl:cells.length=L * 8:=own_len hown
 refine ⟨_,fun i=>if i=L then q' else qq i,by rw [List.length_append,hL];exact hown',fun i y hy=>?_⟩
 rcases Nat.lt_or_ge i L with hi | hi
 ·rw [List.getElem?_append_left (by omega)] at hy
  obtain ⟨h1,h2⟩:=hk i y hy
  simp only [if_neg (show ¬ i=L by omega)]
  refine ⟨fun j v hv=>?_,keep h2⟩
  have hj:j<8:=by have:=(List.getElem?_eq_some_iff.1 hv).1;rwa [tmC_len] at this
  rw [List.getElem?_append_left (by omega)]
  exact h1 j v hv
 ·rw [List.getElem?_append_right (by omega)] at hy
  have hi2:i=L:=by
   cases e:i - xs.length with
   | zero=>omega
   | succ j=>rw [e] at hy;simp at hy
  subst hi2
  rw [hL,Nat.sub_self] at hy
  obtain rfl:x'=y:=by simpa using hy
  simp only [↓reduceIte]
  refine ⟨fun j v hv=>?_,ht.mono fun k h _=>h.imp id fun h=>⟨hO2 k h.1,h.2⟩⟩
  rw [List.getElem?_append_right (by omega),show i * 8+j - cells.length=j by omega]
  exact hv
end Go.Proofs.Ytdboloabpjmgaaa

namespace Go.Proofs.Ytdboloabpjmgaaa
open Go.RowKit Go.Shelf Go.Proofs.YtdboloabpjmgaaaW.PrintWords Go.RegionInvYtdboloabpjmgaaa Go.RegionEYtdboloabpjmgaaa
attribute [local go_sem] Oper.semAt_some

abbrev vrIs (gv:Nat):Value:=.func (.func 61) #[] #[.pointer (some ⟨gv,0,none⟩)]
abbrev rbWIs (w:World) (p:Pl) (t:Tm) (b:Int) (gv:Nat):World:=
 (((w.alloc (tmO p t)).alloc (.cells #[.int .i64 b] 3 (0,0))).alloc (.cells #[vrIs gv] 68 (0,0))).alloc (.cells #[.int .i64 0,.int .i64 0,.string ⟨#[]⟩,.int .i64 0,.int .i64 0,.slice none 0 0,.slice none 0 0,.slice none 0 0] 28 (0,0))
set_option maxRecDepth 100000 in
set_option maxHeartbeats 16000000 in
theorem reb_Is (RF:Tm→Int→Tm) (Rep:World→Prop) (S:Nat→Prop) (g0 g1:Nat) (h01:g0≤g1) (hS:∀ k,S k→k<g0) (gv:Nat)
  (hRep:∀ (W W':World),Rep W→(∀ k,k<g1→W'.heap[k]?=W.heap[k]?)→Rep W')
  (hvis:∀ (t:Tm) (p:Pl) (b:Int) (w:World),leafT t=true→0≤b→b≤1000000→g1≤w.heap.size→TmS w S p t→Rep w→Calls Try.prog 61 #[tmV p t,.int .i64 b,.pointer (some ⟨gv,0,none⟩)] w (TmGot w S (RF t b)))
  (N:Nat):∀ (t:Tm),SizeOf.sizeOf t<N→∀ (p:Pl) (b:Int) (w:World),0≤b→b+depthT t≤1000000→g1≤w.heap.size→TmS w S p t→Rep w →
  Calls Try.prog 60 #[tmV p t,.int .i64 b,vrIs gv] w (TmGot w S (rebP RF t b)):=by
 induction N with
 | zero=>intro t h;omega
 | succ N ih =>
  intro t hN p b w hb0 hb1 hg1 hin hR
  have hg:g0≤w.heap.size:=Nat.le_trans h01 hg1
  have IH:=Ak ih
  have HSS:=Ak hS
  have HRP:=Ak hRep
  have HVS:=Ak hvis
  have HIN:=Ak hin
  have HR:=Ak hR
  have HNN:=Ak hN
  have HBD:=Ak hb1
  have hdp:1≤depthT t:=by rw [depthT];omega
  have hb2:b≤1000000:=by omega
  have hz0:(rbWIs w p t b gv).heap.size=w.heap.size+4:=by simp
  have hb0w:Below w.heap.size w (rbWIs w p t b gv):=below_alloc (below_alloc (below_alloc (below_alloc (Below.refl _ _) _) _) _) _
  have HX0:=Ak (show (rbWIs w p t b gv).heap[w.heap.size]?=some (tmO p t) from blk_alloc (blk_alloc (blk_alloc (blk_new _ _) _) _) _)
  have HX1:=Ak (show (rbWIs w p t b gv).heap[w.heap.size+1]?=some (.cells #[.int .i64 b] 3 (0,0)) by have:=blk_new (w.alloc (tmO p t)) (.cells #[.int .i64 b] 3 (0,0));simp only [World.size_alloc] at this;exact blk_alloc (blk_alloc this _) _)
  have HX2:=Ak (show (rbWIs w p t b gv).heap[w.heap.size+1+1]?=some (.cells #[vrIs gv] 68 (0,0)) by have:=blk_new ((w.alloc (tmO p t)).alloc (.cells #[.int .i64 b] 3 (0,0))) (.cells #[vrIs gv] 68 (0,0));simp only [World.size_alloc] at this;exact blk_alloc this _)
  have HX3:=Ak (show (rbWIs w p t b gv).heap[w.heap.size+1+1+1]?=some (outK 0 (.slice none 0 0)) by have:=blk_new (((w.alloc (tmO p t)).alloc (.cells #[.int .i64 b] 3 (0,0))).alloc (.cells #[vrIs gv] 68 (0,0))) (outK 0 (.slice none 0 0));simp only [World.size_alloc] at this;exact this)
  have HZ0:=Ak hz0
  have HB0:=Ak hb0w
  clear ih hRep hvis hin hR hN hz0 hb0w hb1
  unfold tmV vrIs
  refine (callsIn_wide (n:=5)).1 ?_
  refine callsIn_of_wp_marks Try.func60 rfl trivial ?_ rfl
  simp only [Try.ntmps60,List.size_toArray,List.length_cons,List.length_nil,Nat.reduceAdd,Nat.reduceSub,Array.replicate_succ,Array.replicate_zero,List.push_toArray,List.append_toArray,List.nil_append,List.cons_append]
  cases hlf:leafT t with
  | true =>
   have HLF:=Ak hlf
   have HE:=Ak (reb_leaf (RF:=RF) (b:=b) hlf)
   clear hlf
   gi_wp2
   refine ⟨trivial,?_⟩
   gi_at_call 75
   refine (callsIn_wide.2 (leaf_calls t p _)).mono ?_
   rintro e w1 ⟨rfl,hb1⟩
   rw [HLF.out]
   have hX0:=(hb1.block w.heap.size (by rw [HZ0.out];omega)).trans HX0.out
   have hX1:=(hb1.block _ (by rw [HZ0.out];omega)).trans HX1.out
   have hX2:=(hb1.block _ (by rw [HZ0.out];omega)).trans HX2.out
   have hX3:=(hb1.block _ (by rw [HZ0.out];omega)).trans HX3.out
   have HX31:=Ak hX3
   have HB1:=Ak (show Below w.heap.size w w1 from Below.trans HB0.out (hb1.mono HB0.out.size))
   obtain ⟨c0,c1,c2,c3,c4,c5,c6,c7⟩:=row8 hX0
   have d1:w1.cell? ⟨w.heap.size+1,0,none⟩=some (.int .i64 b):=by (rw [cell_of_row _ _ _ _ _ _ hX1];rfl)
   have d2:w1.cell? ⟨w.heap.size+1+1,0,none⟩=some (vrIs gv):=by (rw [cell_of_row _ _ _ _ _ _ hX2];rfl)
   clear hb1 hX0 hX1 hX2 hX3
   gi_wp2
   refine ⟨trivial,?_⟩
   gi_at_call 61
   refine (callsIn_wide.2 (HVS.out t p b w1 HLF.out hb0 hb2 (Nat.le_trans hg1 HB1.out.size) (TmS.stay HIN.out HSS.out (HB1.out.mono hg)) (HRP.out _ _ HR.out (fun k hk=>HB1.out.block k (by omega))))).mono ?_
   rintro e w3 ⟨q9,rfl,ht9,hb3⟩
   have hX3:=(hb3.block _ (blk_lt HX31.out)).trans HX31.out
   have HX33:=Ak hX3
   have HT9:=Ak ht9
   have HB3:=Ak hb3
   obtain ⟨r0,r1,r2,r3,r4,r5,r6,r7,f0,f1,f2,f3,f4,f5,f6,f7⟩:=row8c hX3
   obtain ⟨y,hy⟩:∃ y,y=RF t b:=⟨_,rfl⟩
   rw [← hy] at HT9 HE ⊢
   clear hX3 ht9 hb3 hy c0 c1 c2 c3 c4 c5 c6 c7
   unfold tmV
   gi_wp2
   refine ⟨_,results_c rfl _ _ (w.heap.size+1+1+1) 28 #[.int .i64 y.kind,.int .i64 y.num,.string y.name,.int .i64 y.lv.kind,.int .i64 y.lv.num,.slice q9.A y.lv.kids.length q9.c,.slice q9.B y.ls.length q9.d,.slice q9.K y.kids.length q9.e] (0,0) _ rfl (set8 HX33.out) Try.underlying28 rfl (by kernel_rfl),?_⟩
   have hch:=chg_set8 w3 (w.heap.size+1+1+1) (.int .i64 y.kind) (.int .i64 y.num) (.string y.name) (.int .i64 y.lv.kind) (.int .i64 y.lv.num) (.slice q9.A y.lv.kids.length q9.c) (.slice q9.B y.ls.length q9.d) (.slice q9.K y.kids.length q9.e)
   rw [HE.out]
   have hz1:=blk_lt HX31.out
   exact ⟨q9,rfl,(HT9.out.same fun k hk hz=>hch.block k hz (by rcases hk with hk | hk;have:=HSS.out _ hk;omega;omega)).mono fun k hk _=>hk.imp id fun h=>by omega,Chg.trans_below (below_then HB1.out HB1.out.size HB3.out) hch (fun _ e=>by omega) (Nat.le_trans HB1.out.size HB3.out.size)⟩
  | false =>
   have HLF:=Ak hlf
   have HE:=Ak (reb_node (RF:=RF) (b:=b) hlf)
   clear hlf
   gi_wp2
   refine ⟨trivial,?_⟩
   gi_at_call 75
   refine (callsIn_wide.2 (leaf_calls t p _)).mono ?_
   rintro e w1 ⟨rfl,hb1⟩
   rw [HLF.out]
   have hX0:=(hb1.block w.heap.size (by rw [HZ0.out];omega)).trans HX0.out
   have hX1:=(hb1.block _ (by rw [HZ0.out];omega)).trans HX1.out
   have hX2:=(hb1.block _ (by rw [HZ0.out];omega)).trans HX2.out
   have hX3:=(hb1.block _ (by rw [HZ0.out];omega)).trans HX3.out
   have hz1:w.heap.size+4≤w1.heap.size:=by have:=hb1.size;rw [HZ0.out] at this;exact this
   have HX01:=Ak hX0
   have HX11:=Ak hX1
   have HX21:=Ak hX2
   have HX31:=Ak hX3
   have HB1:=Ak (show Below w.heap.size w w1 from Below.trans HB0.out (hb1.mono HB0.out.size))
   obtain ⟨c0,c1,c2,c3,c4,c5,c6,c7⟩:=row8 hX0
   have hlt0:w.heap.size<w1.heap.size:=by omega
   clear hb1 hX0 hX1 hX2 hX3
   gi_wp2
   refine ⟨trivial,?_⟩
   gi_at_call 96
   obtain ⟨W1,hW1⟩:∃ W1,W1=w1.alloc (outK t.kind (.slice none 0 0)):=⟨_,rfl⟩
   rw [← hW1]
   have HO1:=Ak (show W1.heap[w1.heap.size]?=some (outK t.kind (.slice none 0 0)) by rw [hW1];exact blk_new _ _)
   have HBW1:=Ak (show Below w1.heap.size w1 W1 by rw [hW1];exact below_alloc (Below.refl _ _) _)
   have HZW1:=Ak (show W1.heap.size=w1.heap.size+1 by rw [hW1];simp)
   refine (callsIn_wide.2 (tkids_calls p t W1)).mono ?_
   rintro e w2 ⟨rfl,hw2⟩
   have HZX2:=Ak (show w2.heap[W1.heap.size]?=some (tmO p t) by rw [hw2];exact blk_new _ _)
   have HB2:=Ak (show Below W1.heap.size W1 w2 by rw [hw2];exact below_alloc (Below.refl _ _) _)
   have HZW2:=Ak (show w2.heap.size=W1.heap.size+1 by rw [hw2];simp)
   clear hw2 hW1 c0 c1 c2 c3 c4 c5 c6 c7
   have HBB:=Ak (show Below w1.heap.size w1 w2 from Below.trans HBW1.out (HB2.out.mono (by have:=HZW1.out;omega)))
   have HO2:=Ak (show w2.heap[w1.heap.size]?=some (outK t.kind (.slice none 0 0)) from (HB2.out.block _ (by have:=HZW1.out;omega)).trans HO1.out)
   gi_wp2
   obtain ⟨q,hq⟩:=(TmS.stay HIN.out HSS.out (Below.trans (HB1.out.mono hg) (HBB.out.mono (by omega)))).kid
   have HQ:=Ak hq
   have hlen:=HIN.out.len
   have hzz:=blk_lt HZX2.out
   have hzs:w1.heap.size<W1.heap.size:=by have:=HZW1.out;omega
   have hzs2:W1.heap.size<w2.heap.size:=hzz
   clear hq
   refine wpIn_rangeFunc_ownH (F:=Fence.wide) rfl (by decide) (gf:=117) (lb:=#[.pointer (some ⟨W1.heap.size,0,none⟩)]) rfl trivial (enters_of Try.func117 (by kernel_rfl) rfl)
    (kids_stops (5 - 1) (by decide) p t q W1.heap.size w2.heap.size (fun k=>k=w1.heap.size) S w2 HZX2.out hzz (Nat.le_refl _) (fun e=>by omega) (fun k hk=>by have hk:=HSS.out _ hk;exact ⟨by omega,fun h=>by omega⟩) (by omega) (fun i x hx=>(HQ.out i x hx).1))
    kpG_trans (kpG_put (Nat.le_refl _)) (Below.refl _ _) (fun _=>rfl)
    (fun pre W=>∃ V,W.heap[w1.heap.size]?=some (outK t.kind V)∧KidsT W S w2.heap.size V (rebKids RF t b pre)∧Chg (fun k=>k=w1.heap.size) w2 W)
    (fun _ _ _=>False)
    (fun pre X Y row hs hg hr=>by obtain ⟨V,h1,h2,h3⟩:=hs;exact ⟨V,(hg.block _ (blk_lt h1) (fun e=>by have:=(hr _ e.symm).1;omega)).trans h1,h2.grown hg (fun r e=>row_no (hr r e).2),chg_grown h3 hg (fun r e=>(hr r e).1)⟩)
    (fun c pre X Y row hs hg hr=>hs)
    ⟨.slice none 0 0,HO2.out,KidsT.nil _ _ _,Chg.refl _ _⟩
    (fun x a' W=>∃ Bx,w2.heap.size≤Bx∧W.heap[Bx]?=some (tmO (q x) (kidF t x))∧(∀ V,W.heap[w1.heap.size]?=some (outK t.kind V)→V.ownBlock≠some Bx)∧a' = { tmps:=#[tmV p t,.int .i64 b,vrIs gv,.pointer (some ⟨w.heap.size,0,none⟩),.pointer (some ⟨w.heap.size+1,0,none⟩),.pointer (some ⟨w.heap.size+1+1,0,none⟩),.pointer (some ⟨w.heap.size+1+1+1,0,none⟩),.pointer (some ⟨w1.heap.size,0,none⟩),.int .i64 (moreZ t x),.pointer (some ⟨Bx,0,none⟩),tmV p t,.bool false,undef,undef,undef,undef,.pointer (some ⟨w.heap.size,0,none⟩),.int .i64 t.kind,.agg #[.int .i64 t.kind,.int .i64 0,.string ⟨#[]⟩,.int .i64 0,.int .i64 0,.slice none 0 0,.slice none 0 0,.slice none 0 0],tmV p t,.func (.func 117) #[] #[.pointer (some ⟨W1.heap.size,0,none⟩)],.int .i64 (moreZ t x),tmV (q x) (kidF t x),undef,undef,undef,undef,undef,undef,undef,undef,undef,undef,undef,undef,undef,undef],defers:=[] })
    (fun x a' _ X Y row hs hg hr=>by
     obtain ⟨Bx,h1,h2,h3,h4⟩:=hs
     refine ⟨Bx,h1,(hg.block _ (blk_lt h2) (fun e=>by obtain ⟨o,ho,hc⟩:=(hr _ e.symm).2;rw [h2] at ho;cases ho;cases hc)).trans h2,fun V hV=>?_,h4⟩
     by_cases hz:w1.heap.size<X.heap.size
     ·exact h3 V ((hg.block _ hz (fun e=>by have:=(hr _ e.symm).1;omega)).symm.trans hV)
     ·exact absurd (blk_lt h2) (by omega))
    ?assign ?body ?done ?stop
   case assign =>
    rintro l pre x W K ⟨V,hVO,hKT,hCW⟩ hK
    dsimp only [encK,tmV]
    have hb1:Below W.heap.size W (W.alloc (tmO (q x) (kidF t x))):=below_alloc (Below.refl _ _) _
    have HKK:=Ak (hK { tmps:=#[tmV p t,.int .i64 b,vrIs gv,.pointer (some ⟨w.heap.size,0,none⟩),.pointer (some ⟨w.heap.size+1,0,none⟩),.pointer (some ⟨w.heap.size+1+1,0,none⟩),.pointer (some ⟨w.heap.size+1+1+1,0,none⟩),.pointer (some ⟨w1.heap.size,0,none⟩),.int .i64 (moreZ t x),.pointer (some ⟨W.heap.size,0,none⟩),tmV p t,.bool false,undef,undef,undef,undef,.pointer (some ⟨w.heap.size,0,none⟩),.int .i64 t.kind,.agg #[.int .i64 t.kind,.int .i64 0,.string ⟨#[]⟩,.int .i64 0,.int .i64 0,.slice none 0 0,.slice none 0 0,.slice none 0 0],tmV p t,.func (.func 117) #[] #[.pointer (some ⟨W1.heap.size,0,none⟩)],.int .i64 (moreZ t x),tmV (q x) (kidF t x),undef,undef,undef,undef,undef,undef,undef,undef,undef,undef,undef,undef,undef,undef],defers:=[] } _ (KeepsFrom.of_chg (Chg.of_below (S:=fun _=>False) hb1) (fun k h=>h.elim)) ⟨hb1.size,fun k hk _=>hb1.block k (by have:=hCW.size;omega)⟩ ⟨V,blk_alloc hVO _,hKT.later hb1,chg_trans hCW (Chg.of_below hb1)⟩
     ⟨W.heap.size,hCW.size,blk_new _ _,fun V' hV'=>by
      have e1:=(blk_alloc hVO (tmO (q x) (kidF t x))).symm.trans hV'
      obtain rfl:V=V':=by injection e1 with e1;injection e1 with e1;injection e1 with e1;simpa using e1
      obtain ⟨cells,qq,ho,_⟩:=hKT
      intro e
      have:=own_lt ho _ e
      omega,rfl⟩)
    clear hK hKT hCW hVO hb1
    gi_wp2
    exact HKK.out
   case body =>
    rintro l pre x a' W hl ⟨r,hr⟩ ⟨V,hVO,hKT,hCW⟩ ⟨Bx,hBx,bX,hVB,rfl⟩ hlt
    have hVB2:=hVB V hVO
    obtain ⟨cells,qq,hown,hkids⟩:=hKT
    obtain ⟨A9,c9,rfl⟩:=own_slice hown
    have hszW:=hCW.size
    have hn3:=nK_le3 t
    have HPL:=Ak (rebKids_len RF t b pre)
    have hmz:=moreZ_in t x
    have HDK:=Ak (depth_kid t x)
    have hbm:0≤b+moreZ t x∧b+moreZ t x≤2000000:=by omega
    have st:∀ j,j<w1.heap.size→W.heap[j]?=w1.heap[j]?:=fun j h1=>(hCW.block j (by omega) (by omega)).trans (HBB.out.block j h1)
    have hX1:=(st _ (by omega)).trans HX11.out
    have hX2:=(st _ (by omega)).trans HX21.out
    have HIH:=Ak (show ∀ w',W.heap.size≤w'.heap.size→(∀ k,k<g1→w'.heap[k]?=W.heap[k]?)→Calls Try.prog 60 #[tmV (q x) (kidF t x),.int .i64 (b+moreZ t x),vrIs gv] w' (TmGot w' S (rebP RF (kidF t x) (b+moreZ t x))) from fun w' hz hs=>by
     have hs2:∀ k,k<g1→w'.heap[k]?=w.heap[k]?:=fun k hk=>(hs k hk).trans ((st k (by omega)).trans (HB1.out.block k (by omega)))
     have hs3:∀ k,k<g1→w'.heap[k]?=w2.heap[k]?:=fun k hk=>(hs2 k hk).trans ((HBB.out.block k (by omega)).trans (HB1.out.block k (by omega))).symm
     exact IH.out (kidF t x) (by have:=kidF_lt t x;have:=HNN.out;omega) (q x) (b+moreZ t x) w' (by omega) (by have:=HBD.out;have:=HDK.out;omega) (by omega) ((HQ.out x _ (kidF_get t x)).2.same fun k hk _=>hs3 k (Nat.lt_of_lt_of_le (HSS.out _ hk) h01)) (HRP.out _ _ HR.out hs2))
    have HKID:=Ak hkids
    have HOWN:=Ak hown
    have HBX:=Ak bX
    have HVO:=Ak hVO
    have HCW:=Ak hCW
    obtain ⟨L,hL⟩:∃ L,(rebKids RF t b pre).length=L:=⟨_,rfl⟩
    have hL3:L≤3:=by rw [← hL,HPL.out];omega
    have HLE:=Ak hL
    clear st hl hVB hkids hown bX hVO hCW
    rw [hL] at hVB2 HOWN HVO HKID
    clear hL
    refine wpIn_block ?_
    refine rb_region ?hq W S w1.heap.size Bx (w.heap.size+1) (w.heap.size+1+1) w2.heap.size g0 g1 L c9 A9 cells t.kind b (moreZ t x) (q x) (kidF t x) (rebP RF (kidF t x) (b+moreZ t x)) (vrIs gv) HSS.out HVO.out HBX.out hX1 hX2 HOWN.out (by omega) (by omega) (by omega) hVB2 (by omega) (by omega) (by omega) (by omega) (by omega) (by omega) HIH.out ?_
    case hq =>
     rintro ⟨a1,wx,h⟩
     exact h
    intro w' u30 u32 u33 u34 O9 O11 v12 O12 v14 O14 hch _ _ h11 _ h12 hO12 h14 _ hap
    have hfin:=reb_round HLE.out HKID.out HOWN.out hch h12 hO12 (fun h=>hap _ h h14.2) (by omega) (by omega) (by omega) HSS.out
    have hsn:=rebKids_snoc RF t b pre x
    have hz':=hch.size
    have hC2:Chg (fun k=>k=w1.heap.size) w2 w':=⟨hch.os.trans HCW.out.os,hch.tape.trans HCW.out.tape,hch.output.trans HCW.out.output,Nat.le_trans HCW.out.size hch.size,fun k hk hn=>(hch.block k (by omega) (fun e=>e.elim (fun e=>by have:=own_base HOWN.out k e;omega) hn)).trans (HCW.out.block k hk hn)⟩
    exact ⟨⟨hch.size,fun k o hBk ho hc=>(hch.block k (blk_lt ho) (fun e=>e.elim (fun e=>own_cells HOWN.out e ho hc) (fun e=>by have e:k=w1.heap.size:=e;omega))).trans ho⟩,⟨hch.size,fun k hk hg=>hch.block k (by omega) (fun e=>e.elim (fun e=>by have:=own_base HOWN.out k e;omega) hg)⟩,u33,h14.1,by rw [hsn];exact hfin,hC2⟩
   case stop =>
    rintro D c pre WW hD hSp hf hKW
    exact hf.elim
   case done =>
    rintro D ys W hD rfl ⟨V,hVO,hKT,hCW⟩ hK
    obtain ⟨K9,e9,rfl,hterm⟩:=hKT.term
    have HTM:=Ak (hterm t.kind 0 noName ⟨by decide,by decide,by simp⟩)
    have hszW:=hCW.size
    have hres:=(hCW.block (w.heap.size+1+1+1) (by omega) (by omega)).trans ((HBB.out.block _ (by omega)).trans HX31.out)
    have HRES:=Ak hres
    have HKD:=Ak hK
    have HCW:=Ak hCW
    obtain ⟨o0,o1,o2,o3,o4,o5,o6,o7,-,-,-,-,-,-,-,-⟩:=row8c hVO
    obtain ⟨r0,r1,r2,r3,r4,r5,r6,r7,f0,f1,f2,f3,f4,f5,f6,f7⟩:=row8c hres
    have hz5:w1.heap.size<W.heap.size:=by omega
    have hne5:w1.heap.size≠w.heap.size+1+1+1:=by omega
    obtain ⟨m9,hm9⟩:∃ m,(rebKids RF t b (List.finRange (nK t))).length=m:=⟨_,rfl⟩
    have HM9:=Ak hm9
    rw [hm9] at o7
    clear hVO hKT hCW hK hterm hres hm9
    gi_wp2
    have hch:=chg_set8 W (w.heap.size+1+1+1) (.int .i64 t.kind) (.int .i64 0) (.string ⟨#[]⟩) (.int .i64 0) (.int .i64 0) (.slice none 0 0) (.slice none 0 0) (.slice K9 m9 e9)
    have hx5:=set8 (a0:=.int .i64 t.kind) (a1:=.int .i64 0) (a2:=.string ⟨#[]⟩) (a3:=.int .i64 0) (a4:=.int .i64 0) (a5:=.slice none 0 0) (a6:=.slice none 0 0) (a7:=.slice K9 m9 e9) HRES.out
    obtain ⟨WW,hWW⟩:∃ WW,WW=((((((((W.setCell ⟨w.heap.size+1+1+1,0,none⟩ (.int .i64 t.kind)).setCell ⟨w.heap.size+1+1+1,1,none⟩ (.int .i64 0)).setCell ⟨w.heap.size+1+1+1,2,none⟩ (.string ⟨#[]⟩)).setCell ⟨w.heap.size+1+1+1,3,none⟩ (.int .i64 0)).setCell ⟨w.heap.size+1+1+1,4,none⟩ (.int .i64 0)).setCell ⟨w.heap.size+1+1+1,5,none⟩ (.slice none 0 0)).setCell ⟨w.heap.size+1+1+1,6,none⟩ (.slice none 0 0)).setCell ⟨w.heap.size+1+1+1,7,none⟩ (.slice K9 m9 e9)):=⟨_,rfl⟩
    rw [← hWW] at hch hx5 ⊢
    clear hWW
    have hszV:=hch.size
    have hKW:WW.heap[D]?=some (.deferred (some [])):=(hch.block D (blk_lt HKD.out) (by omega)).trans HKD.out
    have hp:=chg_put WW D (.deferred none)
    have hx6:(WW.putObj D (.deferred none)).heap[w.heap.size+1+1+1]?=some (.cells #[.int .i64 t.kind,.int .i64 0,.string ⟨#[]⟩,.int .i64 0,.int .i64 0,.slice none 0 0,.slice none 0 0,.slice K9 m9 e9] 28 (0,0)):=(hp.block _ (blk_lt hx5) (by omega)).trans hx5
    refine ⟨by simp,.inl ⟨_,_,rfl,run_takeDeferred hKW,?_⟩⟩
    refine ⟨_,results_c rfl _ _ (w.heap.size+1+1+1) 28 #[.int .i64 t.kind,.int .i64 0,.string ⟨#[]⟩,.int .i64 0,.int .i64 0,.slice none 0 0,.slice none 0 0,.slice K9 m9 e9] (0,0) _ rfl hx6 Try.underlying28 rfl (by kernel_rfl),?_⟩
    rw [HE.out]
    have hnD:∀ k,CellsB W k→k≠D:=by
     rintro k ⟨cs,tt,fr,hk⟩ e
     rw [e,HKD.out] at hk
     cases hk
    refine ⟨⟨none,0,none,0,K9,e9⟩,by unfold tmV;rw [← HM9.out];rfl,((HTM.out.cells).same fun k hk hz=>(hp.block k (by omega) (hnD k hk.2)).trans (hch.block k hz (by rcases hk.1 with h | h;have:=HSS.out _ h;omega;omega))).mono fun k hk _=>hk.1.imp id fun h=>by omega,?_⟩
    refine Chg.trans_below (S:=fun k=>k=w1.heap.size∨k=w.heap.size+1+1+1∨k=D) (Below.trans HB1.out (HBB.out.mono HB1.out.size)) ?_ (fun k h=>by omega) (by have:=HB1.out.size;omega)
    exact chg_trans (HCW.out.mono fun k h=>.inl h) (chg_trans (hch.mono fun k h=>.inr (.inl h)) (hp.mono fun k h=>.inr (.inr h)))
end Go.Proofs.Ytdboloabpjmgaaa

namespace Go.Proofs.Ytdboloabpjmgaaa
open Go.RowKit Go.Shelf Go.Proofs.YtdboloabpjmgaaaW.PrintWords Go.RegionInvYtdboloabpjmgaaa
attribute [local go_sem] Oper.semAt_some

abbrev vfPl (g1 g2:Nat):Value:=.func (.func 59) #[] #[.pointer (some ⟨g1,0,none⟩),.pointer (some ⟨g2,0,none⟩)]
abbrev foWPl (w:World) (p:Pl) (t:Tm) (d b:Int) (g1 g2:Nat):World:=
 ((((w.alloc (tmO p t)).alloc (.cells #[.int .i64 d] 3 (0,0))).alloc (.cells #[.int .i64 b] 3 (0,0))).alloc (.cells #[vfPl g1 g2] 66 (0,0))).alloc (.cells #[.bool false] 4 (0,0))
set_option maxRecDepth 100000 in
set_option maxHeartbeats 16000000 in
theorem fold_Pl {σ:Type} (F:Tm→Int→Int→σ→Bool × σ) (Rep:σ→World→Prop) (Inv:σ→Prop) (P:Tm→Int→Prop) (G:Nat→Prop) (B g0:Nat) (g1 g2:Nat)
  (hG:∀ k,G k→B≤k∧k<g0) (hBg:B≤g0) (hRep:∀ (s:σ) (W W':World),Rep s W→(∀ k,G k→W'.heap[k]?=W.heap[k]?)→Rep s W')
  (hvis:∀ (t:Tm) (p:Pl) (d b:Int) (s:σ) (w:World),P t d→0≤b→b≤d→Inv s→g0≤w.heap.size→TmIn w B p t→Rep s w→Calls Try.prog 59 #[tmV p t,.int .i64 d,.int .i64 b,.pointer (some ⟨g1,0,none⟩),.pointer (some ⟨g2,0,none⟩)] w (FoldPost Rep G w (F t d b s)))
  (hF:∀ (t:Tm) (d b:Int) (s:σ),P t d→Inv s→(F t d b s).1=true→Inv (F t d b s).2∧∀ i:Fin (nK t),P (kidF t i) (d+1)) (hP:∀ t d,P t d→0≤d∧d≤100000)
  (N:Nat):∀ (t:Tm),SizeOf.sizeOf t<N→∀ (p:Pl) (d b:Int) (s:σ) (w:World),P t d→0≤b→b≤d→Inv s→g0≤w.heap.size→TmIn w B p t→Rep s w →
  Calls Try.prog 58 #[tmV p t,.int .i64 d,.int .i64 b,vfPl g1 g2] w (FoldPost Rep G w (foldP F t d b s)):=by
 induction N with
 | zero=>intro t h;omega
 | succ N ih =>
  intro t hN p d b s w hPd hb0 hbd hI hg hin hR
  have IH:=Ak ih
  have HG:=Ak hG
  have HRP:=Ak hRep
  have HVS:=Ak hvis
  have HF:=Ak hF
  have HP:=Ak hPd
  have HI:=Ak hI
  have HIN:=Ak hin
  have HR:=Ak hR
  have HNN:=Ak hN
  have hd:=hP t d hPd
  have HPP:=Ak hP
  have hz0:(foWPl w p t d b g1 g2).heap.size=w.heap.size+5:=by simp
  have hb0w:Below w.heap.size w (foWPl w p t d b g1 g2):=below_alloc (below_alloc (below_alloc (below_alloc (below_alloc (Below.refl _ _) _) _) _) _) _
  have HZ0:=Ak hz0
  have HB0:=Ak hb0w
  have HX0:=Ak (show (foWPl w p t d b g1 g2).heap[w.heap.size]?=some (tmO p t) from blk_alloc (blk_alloc (blk_alloc (blk_alloc (blk_new _ _) _) _) _) _)
  have HX1:=Ak (show (foWPl w p t d b g1 g2).heap[w.heap.size+1]?=some (.cells #[.int .i64 d] 3 (0,0)) by have:=blk_new (w.alloc (tmO p t)) (.cells #[.int .i64 d] 3 (0,0));simp only [World.size_alloc] at this;exact blk_alloc (blk_alloc (blk_alloc this _) _) _)
  have HX2:=Ak (show (foWPl w p t d b g1 g2).heap[w.heap.size+1+1]?=some (.cells #[.int .i64 b] 3 (0,0)) by have:=blk_new ((w.alloc (tmO p t)).alloc (.cells #[.int .i64 d] 3 (0,0))) (.cells #[.int .i64 b] 3 (0,0));simp only [World.size_alloc] at this;exact blk_alloc (blk_alloc this _) _)
  have HX3:=Ak (show (foWPl w p t d b g1 g2).heap[w.heap.size+1+1+1]?=some (.cells #[vfPl g1 g2] 66 (0,0)) by have:=blk_new (((w.alloc (tmO p t)).alloc (.cells #[.int .i64 d] 3 (0,0))).alloc (.cells #[.int .i64 b] 3 (0,0))) (.cells #[vfPl g1 g2] 66 (0,0));simp only [World.size_alloc] at this;exact blk_alloc this _)
  have HX4:=Ak (show (foWPl w p t d b g1 g2).heap[w.heap.size+1+1+1+1]?=some (.cells #[.bool false] 4 (0,0)) by have:=blk_new ((((w.alloc (tmO p t)).alloc (.cells #[.int .i64 d] 3 (0,0))).alloc (.cells #[.int .i64 b] 3 (0,0))).alloc (.cells #[vfPl g1 g2] 66 (0,0))) (.cells #[.bool false] 4 (0,0));simp only [World.size_alloc] at this;exact this)
  have hR0:Rep s (foWPl w p t d b g1 g2):=hRep _ _ _ hR fun k hk=>hb0w.block k (Nat.lt_of_lt_of_le (hG k hk).2 hg)
  have HR0:=Ak hR0
  have HIN0:=Ak (hin.stay (hb0w.mono (Nat.le_trans hBg hg)))
  have HGG:=Ak (show ∀ k,G k→k<w.heap.size from fun k hk=>Nat.lt_of_lt_of_le (hG k hk).2 hg)
  clear ih hG hRep hvis hF hPd hI hin hR hN hP hz0 hb0w hR0
  unfold tmV vfPl
  refine (callsIn_wide (n:=5)).1 ?_
  refine callsIn_of_wp_marks Try.func58 rfl trivial ?_ rfl
  simp only [Try.ntmps58,List.size_toArray,List.length_cons,List.length_nil,Nat.reduceAdd,Nat.reduceSub,Array.replicate_succ,Array.replicate_zero,List.push_toArray,List.append_toArray,List.nil_append,List.cons_append]
  obtain ⟨e1,s1,hes⟩:∃ x y,F t d b s=(x,y):=⟨_,_,rfl⟩
  have HV:=Ak hes
  cases e1 with
  | false =>
   have HE:=Ak (show foldP F t d b s=(false,s1) by rw [foldP_stop (by rw [hes]),hes])
   clear hes
   gi_wp2
   refine ⟨trivial,?_⟩
   gi_at_call 59
   refine (callsIn_wide.2 (HVS.out t p d b s _ HP.out hb0 hbd HI.out (Nat.le_trans hg HB0.out.size) HIN0.out HR0.out)).mono ?_
   rintro e w1 ⟨rfl,hR1,hC1⟩
   rw [HV.out] at hR1 ⊢
   have HR1:=Ak hR1
   have HC1:=Ak hC1
   have hx4:=(hC1.block _ (by rw [HZ0.out];omega) (fun h=>by have:=HGG.out _ h;omega)).trans HX4.out
   have HX41:=Ak hx4
   have c4:w1.cell? ⟨w.heap.size+1+1+1+1,0,none⟩=some (.bool false):=by (rw [cell_of_row _ _ _ _ _ _ hx4];rfl)
   have f4:=blk_frozen hx4 0
   clear hR1 hC1 hx4
   gi_wp2
   have hc5:(w1.setCell ⟨w.heap.size+1+1+1+1,0,none⟩ (.bool false)).cell? ⟨w.heap.size+1+1+1+1,0,none⟩=some (.bool false):=World.cell?_setCell_same' _ _ _ (by rw [c4];rfl)
   refine ⟨.bool false,?_,?_⟩
   ·simp [results,Try.f58,go_sem,hc5]
   ·rw [HE.out]
    refine ⟨rfl,HRP.out _ _ _ HR1.out (fun k hk=>(chg_set w1 (w.heap.size+1+1+1+1) 0 (.bool false)).block k (by have:=HC1.out.size;have:=HZ0.out;have:=HGG.out k hk;omega) (fun e=>by have:=HGG.out k hk;omega)),?_⟩
    exact chg_cut (Chg.of_below HB0.out) (HC1.out.mono fun k h=>.inl h) ((chg_set w1 _ 0 _).mono fun k h=>.inr (by have h:k=w.heap.size+1+1+1+1:=h;omega))
  | true =>
   have h2:=HF.out t d b s HP.out HI.out (by rw [hes])
   rw [hes] at h2
   have HI1:=Ak h2.1
   have HPK:=Ak h2.2
   have HE:=Ak (show foldP F t d b s=runL (fun (i:Fin (nK t)) s=>foldP F (kidF t i) (d+1) (b+moreZ t i) s) (List.finRange (nK t)) s1 by rw [foldP_go (by rw [hes]),hes])
   clear hes h2
   gi_wp2
   refine ⟨trivial,?_⟩
   gi_at_call 59
   refine (callsIn_wide.2 (HVS.out t p d b s _ HP.out hb0 hbd HI.out (Nat.le_trans hg HB0.out.size) HIN0.out HR0.out)).mono ?_
   rintro e w1 ⟨rfl,hR1,hC1⟩
   rw [HV.out] at hR1 ⊢
   have HR1:=Ak hR1
   have HC1:=Ak hC1
   have hgn:∀ j,w.heap.size≤j→¬ G j:=fun j hj h=>by have:=HGG.out j h;omega
   have hX0:=(hC1.block w.heap.size (by rw [HZ0.out];omega) (hgn _ (by omega))).trans HX0.out
   have hX1:=(hC1.block _ (by rw [HZ0.out];omega) (hgn _ (by omega))).trans HX1.out
   have hX2:=(hC1.block _ (by rw [HZ0.out];omega) (hgn _ (by omega))).trans HX2.out
   have hX3:=(hC1.block _ (by rw [HZ0.out];omega) (hgn _ (by omega))).trans HX3.out
   have hX4:=(hC1.block _ (by rw [HZ0.out];omega) (hgn _ (by omega))).trans HX4.out
   have hz1:=hC1.size
   rw [HZ0.out] at hz1
   have HX01:=Ak hX0
   have HX11:=Ak hX1
   have HX21:=Ak hX2
   have HX31:=Ak hX3
   have HX41:=Ak hX4
   have HGN:=Ak hgn
   have HIN1:=Ak (HIN0.out.same (w':=w1) fun k hk hz=>hC1.block k hz (fun h=>by have:=(HG.out k h).1;omega))
   obtain ⟨c0,c1,c2,c3,c4,c5,c6,c7⟩:=row8 hX0
   clear hR1 hC1 hX0 hX1 hX2 hX3 hX4 hgn
   gi_wp2
   refine ⟨trivial,?_⟩
   gi_at_call 96
   refine (callsIn_wide.2 (tkids_calls p t _)).mono ?_
   rintro e w2 ⟨rfl,hw2⟩
   have HZX2:=Ak (show w2.heap[w1.heap.size]?=some (tmO p t) by rw [hw2];exact blk_new _ _)
   have HB2:=Ak (show Below w1.heap.size w1 w2 by rw [hw2];exact below_alloc (Below.refl _ _) _)
   clear hw2 c0 c1 c2 c3 c4 c5 c6 c7
   gi_wp2
   obtain ⟨q,hq⟩:=(HIN1.out.later HB2.out).kid
   have HQ:=Ak hq
   have hlen:=HIN1.out.len
   have hz2:=HB2.out.size
   have hzz:=blk_lt HZX2.out
   have hgl:∀ k,G k→k<w2.heap.size:=fun k hk=>by have:=HGG.out k hk;omega
   have HGL:=Ak hgl
   have HINV:=Ak (foldP_inv HF.out)
   clear hq
   refine wpIn_rangeFunc_ownH (F:=Fence.wide) rfl (by decide) (gf:=117) (lb:=#[.pointer (some ⟨w1.heap.size,0,none⟩)]) rfl trivial (enters_of Try.func117 (by kernel_rfl) rfl)
    (kids_stops (5 - 1) (by decide) p t q w1.heap.size w2.heap.size G (fun k=>k<B) w2 HZX2.out hzz (Nat.le_refl _) (HGN.out _ (by omega)) (fun k hk=>⟨by omega,fun h=>by have:=(HG.out k h).1;omega⟩) (by omega) (fun i x hx=>(HQ.out i x hx).1))
    kpG_trans (kpG_put (Nat.le_refl _)) (Below.refl _ _) (fun _=>rfl)
    (fun pre W=>((runL (fun (i:Fin (nK t)) s=>foldP F (kidF t i) (d+1) (b+moreZ t i) s) pre s1).1=true∧Inv (runL (fun (i:Fin (nK t)) s=>foldP F (kidF t i) (d+1) (b+moreZ t i) s) pre s1).2)∧Rep (runL (fun (i:Fin (nK t)) s=>foldP F (kidF t i) (d+1) (b+moreZ t i) s) pre s1).2 W∧Chg G w2 W)
    (fun c pre W=>(c=.ret∧(runL (fun (i:Fin (nK t)) s=>foldP F (kidF t i) (d+1) (b+moreZ t i) s) pre s1).1=false)∧(Rep (runL (fun (i:Fin (nK t)) s=>foldP F (kidF t i) (d+1) (b+moreZ t i) s) pre s1).2 W∧W.heap[w.heap.size+1+1+1+1]?=some (.cells #[.bool false] 4 (0,0)))∧Chg (fun k=>G k∨k=w.heap.size+1+1+1+1) w2 W)
    (fun pre X Y row hs hg hr=>⟨hs.1,HRP.out _ X Y hs.2.1 (fun k hk=>hg.block k (Nat.lt_of_lt_of_le (HGL.out k hk) hs.2.2.size) (fun e=>by have:=(hr k e.symm).1;have:=HGL.out k hk;omega)),chg_grown hs.2.2 hg (fun r e=>(hr r e).1)⟩)
    (fun c pre X Y row hs hg hr=>⟨hs.1,⟨HRP.out _ X Y hs.2.1.1 (fun k hk=>hg.block k (Nat.lt_of_lt_of_le (HGL.out k hk) hs.2.2.size) (fun e=>by have:=(hr k e.symm).1;have:=HGL.out k hk;omega)),(hg.block _ (blk_lt hs.2.1.2) (fun e=>by have:=(hr _ e.symm).1;omega)).trans hs.2.1.2⟩,chg_grown hs.2.2 hg (fun r e=>(hr r e).1)⟩)
    ⟨⟨rfl,HI1.out⟩,HRP.out _ w1 w2 HR1.out (fun k hk=>HB2.out.block k (by have:=HGG.out k hk;omega)),Chg.refl _ _⟩
    (fun x a' W=>∃ Bx,w2.heap.size≤Bx∧W.heap[Bx]?=some (tmO (q x) (kidF t x))∧a' = { tmps:=#[tmV p t,.int .i64 d,.int .i64 b,vfPl g1 g2,.pointer (some ⟨w.heap.size,0,none⟩),.pointer (some ⟨w.heap.size+1,0,none⟩),.pointer (some ⟨w.heap.size+1+1,0,none⟩),.pointer (some ⟨w.heap.size+1+1+1,0,none⟩),.pointer (some ⟨w.heap.size+1+1+1+1,0,none⟩),.int .i64 (moreZ t x),.pointer (some ⟨Bx,0,none⟩),vfPl g1 g2,tmV p t,.int .i64 d,.int .i64 b,.bool true,.bool false,tmV p t,.func (.func 117) #[] #[.pointer (some ⟨w1.heap.size,0,none⟩)],.int .i64 (moreZ t x),tmV (q x) (kidF t x),undef,undef,undef,undef,undef,undef,undef,undef,undef],defers:=[] })
    (fun x a' _ X Y row hs hg hr=>by obtain ⟨Bx,h1,h2,h3⟩:=hs;exact ⟨Bx,h1,(hg.block _ (blk_lt h2) (fun e=>by obtain ⟨o,ho,hc⟩:=(hr _ e.symm).2;rw [h2] at ho;cases ho;cases hc)).trans h2,h3⟩)
    ?assign ?body ?done ?stop
   case assign =>
    rintro l pre x W K ⟨hA,hRW,hCW⟩ hK
    dsimp only [encK,tmV]
    have hAA:=Ak hA
    have hb1:Below W.heap.size W (W.alloc (tmO (q x) (kidF t x))):=below_alloc (Below.refl _ _) _
    have HKK:=Ak (hK { tmps:=#[tmV p t,.int .i64 d,.int .i64 b,vfPl g1 g2,.pointer (some ⟨w.heap.size,0,none⟩),.pointer (some ⟨w.heap.size+1,0,none⟩),.pointer (some ⟨w.heap.size+1+1,0,none⟩),.pointer (some ⟨w.heap.size+1+1+1,0,none⟩),.pointer (some ⟨w.heap.size+1+1+1+1,0,none⟩),.int .i64 (moreZ t x),.pointer (some ⟨W.heap.size,0,none⟩),vfPl g1 g2,tmV p t,.int .i64 d,.int .i64 b,.bool true,.bool false,tmV p t,.func (.func 117) #[] #[.pointer (some ⟨w1.heap.size,0,none⟩)],.int .i64 (moreZ t x),tmV (q x) (kidF t x),undef,undef,undef,undef,undef,undef,undef,undef,undef],defers:=[] } _ (KeepsFrom.of_chg (Chg.of_below (S:=fun _=>False) hb1) (fun k h=>h.elim)) ⟨hb1.size,fun k hk _=>hb1.block k (by have:=hCW.size;omega)⟩ ⟨hA,HRP.out _ _ _ hRW (fun k hk=>hb1.block k (by have:=HGL.out k hk;have:=hCW.size;omega)),chg_trans hCW (Chg.of_below hb1)⟩ ⟨W.heap.size,hCW.size,blk_new _ _,rfl⟩)
    clear hK hA hAA hb1
    gi_wp2
    exact HKK.out
   case body =>
    rintro l pre x a' W hl ⟨r,hr⟩ ⟨⟨hA,hIv⟩,hRW,hCW⟩ ⟨Bx,hBx,bX,rfl⟩ hlt
    obtain ⟨sp,hsp⟩:∃ sp,runL (fun (i:Fin (nK t)) s=>foldP F (kidF t i) (d+1) (b+moreZ t i) s) pre s1=(true,sp):=⟨_,Prod.ext hA rfl⟩
    rw [hsp] at hIv hRW
    have HSP:=Ak hsp
    obtain ⟨ev,s2,hev⟩:∃ ev s2,foldP F (kidF t x) (d+1) (b+moreZ t x) sp=(ev,s2):=⟨_,_,rfl⟩
    have HEV:=Ak hev
    have HSN:=Ak (show runL (fun (i:Fin (nK t)) s=>foldP F (kidF t i) (d+1) (b+moreZ t i) s) (pre ++ [x]) s1=(ev,s2) by rw [runL_snoc,hsp];exact hev)
    have HIV2:=Ak (show ev=true→Inv s2 from fun h=>by have:=HINV.out _ (kidF t x) (Nat.lt_succ_self _) (d+1) (b+moreZ t x) sp (HPK.out x) hIv (by rw [hev];exact h);rwa [hev] at this)
    have HIV:=Ak hIv
    have HRW:=Ak hRW
    have HCW:=Ak hCW
    have HKD:=Ak ((HQ.out x _ (kidF_get t x)).2.same (w':=W) fun k hk hz=>hCW.block k hz (fun h=>by have:=(HG.out k h).1;omega))
    have hszW:=hCW.size
    have st:∀ j,w.heap.size≤j→j<w1.heap.size→W.heap[j]?=w1.heap[j]?:=fun j h1 h2=>(hCW.block j (by omega) (HGN.out j h1)).trans (HB2.out.block j h2)
    have c1:W.cell? ⟨w.heap.size+1,0,none⟩=some (.int .i64 d):=by rw [cell_of_row _ _ _ _ _ _ ((st _ (by omega) (by omega)).trans HX11.out)];rfl
    have c2:W.cell? ⟨w.heap.size+1+1,0,none⟩=some (.int .i64 b):=by rw [cell_of_row _ _ _ _ _ _ ((st _ (by omega) (by omega)).trans HX21.out)];rfl
    have c3:W.cell? ⟨w.heap.size+1+1+1,0,none⟩=some (vfPl g1 g2):=by rw [cell_of_row _ _ _ _ _ _ ((st _ (by omega) (by omega)).trans HX31.out)];rfl
    have X4:=Ak ((st _ (by omega) (by omega)).trans HX41.out)
    obtain ⟨b0,b1,b2,b3,b4,b5,b6,b7⟩:=row8 bX
    obtain ⟨hd0,hd1⟩:=hd
    have hmz:=moreZ_in t x
    obtain ⟨hm0,hm1⟩:=hmz
    have HMZ:=Ak (show b+moreZ t x≤d+1 by omega)
    clear hA hIv hRW hCW hsp hev st bX hr hlt
    cases ev with
    | true =>
     gi_wp2
     refine ⟨trivial,?_⟩
     gi_at_call 58
     refine (CallsIn.inRound l (callsIn_wide.2 (IH.out (kidF t x) (by have:=kidF_lt t x;have:=HNN.out;omega) (q x) (d+1) (b+moreZ t x) sp W (HPK.out x) (by omega) HMZ.out HIV.out (by omega) HKD.out HRW.out))).mono ?_
     rintro e w3 ⟨rfl,hR3,hC3⟩
     rw [HEV.out] at hR3 ⊢
     have HR3:=Ak hR3
     have HC3:=Ak hC3
     clear hR3 hC3
     gi_wp2
     refine ⟨KeepsFrom.of_chg HC3.out HGL.out,⟨HC3.out.size,fun k hk hg=>HC3.out.block k (by omega) hg⟩,⟨?_,?_⟩,?_,chg_trans HCW.out HC3.out⟩
     ·rw [HSN.out]
     ·rw [HSN.out];exact HIV2.out (by simp)
     ·rw [HSN.out];exact HR3.out
    | false =>
     gi_wp2
     refine ⟨trivial,?_⟩
     gi_at_call 58
     refine (CallsIn.inRound l (callsIn_wide.2 (IH.out (kidF t x) (by have:=kidF_lt t x;have:=HNN.out;omega) (q x) (d+1) (b+moreZ t x) sp W (HPK.out x) (by omega) HMZ.out HIV.out (by omega) HKD.out HRW.out))).mono ?_
     rintro e w3 ⟨rfl,hR3,hC3⟩
     rw [HEV.out] at hR3 ⊢
     have HR3:=Ak hR3
     have HC3:=Ak hC3
     have hx4:=(hC3.block _ (by omega) (HGN.out _ (by omega))).trans X4.out
     have X43:=Ak hx4
     have c4:w3.cell? ⟨w.heap.size+1+1+1+1,0,none⟩=some (.bool false):=by (rw [cell_of_row _ _ _ _ _ _ hx4];rfl)
     have f4:=blk_frozen hx4 0
     clear hR3 hC3 hx4
     gi_wp2
     have hch:=chg_set w3 (w.heap.size+1+1+1+1) 0 (.bool false)
     have hsz3:=HC3.out.size
     refine ⟨KeepsFrom.of_chg (S:=fun k=>G k∨k=w.heap.size+1+1+1+1) (chg_trans (HC3.out.mono fun k h=>.inl h) (hch.mono fun k h=>.inr h)) (fun k h=>h.elim (fun h=>HGL.out k h) (fun h=>by omega)),⟨rfl,?_⟩,⟨?_,?_⟩,?_⟩
     ·rw [HSN.out]
     ·rw [HSN.out];exact HRP.out _ _ _ HR3.out fun k hk=>hch.block k (by have:=HGL.out k hk;omega) (fun e=>HGN.out k (by have e:k=_:=e;omega) hk)
     ·exact blk_put X43.out 0 _ rfl
     ·exact chg_trans (HCW.out.mono fun k h=>.inl h) (chg_trans (HC3.out.mono fun k h=>.inl h) (hch.mono fun k h=>.inr h))
   case done =>
    rintro D ys W hD rfl ⟨⟨hA,hIv⟩,hRW,hCW⟩ hK
    obtain ⟨sp,hsp⟩:∃ sp,runL (fun (i:Fin (nK t)) s=>foldP F (kidF t i) (d+1) (b+moreZ t i) s) (List.finRange (nK t)) s1=(true,sp):=⟨_,Prod.ext hA rfl⟩
    rw [hsp] at hRW
    have HRES:=Ak hsp
    have hszW:=hCW.size
    have hx4:=(hCW.block _ (by omega) (HGN.out _ (by omega))).trans ((HB2.out.block _ (by omega)).trans HX41.out)
    have X4:=Ak hx4
    have HRW:=Ak hRW
    have HCW:=Ak hCW
    have HKD:=Ak hK
    have c4:W.cell? ⟨w.heap.size+1+1+1+1,0,none⟩=some (.bool false):=by (rw [cell_of_row _ _ _ _ _ _ hx4];rfl)
    have f4:=blk_frozen hx4 0
    clear hA hIv hsp hRW hCW hx4 hK
    gi_wp2
    have hch:=chg_set W (w.heap.size+1+1+1+1) 0 (.bool true)
    obtain ⟨WW,hWW⟩:∃ WW,WW=W.setCell ⟨w.heap.size+1+1+1+1,0,none⟩ (.bool true):=⟨_,rfl⟩
    have hx5:WW.heap[w.heap.size+1+1+1+1]?=some (.cells #[.bool true] 4 (0,0)):=by rw [hWW];exact blk_put X4.out 0 _ rfl
    rw [← hWW] at hch ⊢
    clear hWW
    have hszV:=hch.size
    have hKW:WW.heap[D]?=some (.deferred (some [])):=(hch.block D (blk_lt HKD.out) (by omega)).trans HKD.out
    have hRWW:Rep sp WW:=HRP.out _ _ _ HRW.out fun k hk=>hch.block k (by have:=HGL.out k hk;omega) (fun e=>HGN.out k (by have e:k=_:=e;omega) hk)
    have hCWW:Chg (fun k=>G k∨w.heap.size≤k) w2 WW:=chg_trans (HCW.out.mono fun k h=>.inl h) (hch.mono fun k h=>.inr (by have h:k=_:=h;omega))
    have hgD:∀ k,G k→k≠D:=fun k hk e=>by have:=HGL.out k hk;omega
    have hp:=chg_put WW D (.deferred none)
    have hc5:(WW.putObj D (.deferred none)).cell? ⟨w.heap.size+1+1+1+1,0,none⟩=some (.bool true):=by
     rw [cell_of_row _ _ _ _ _ _ ((hp.block _ (blk_lt hx5) (by omega)).trans hx5)];rfl
    refine ⟨by simp,.inl ⟨_,_,rfl,run_takeDeferred hKW,?_⟩⟩
    refine ⟨.bool true,?_,?_⟩
    ·simp [results,Try.f58,go_sem,hc5]
    ·rw [HE.out,HRES.out]
     refine ⟨rfl,HRP.out _ _ _ hRWW (fun k hk=>hp.block k (by have:=HGL.out k hk;omega) (hgD k hk)),?_⟩
     refine chg_cut (Chg.of_below HB0.out) (HC1.out.mono fun k h=>.inl h) (chg_trans (chg_trans (Chg.of_below HB2.out) hCWW) (hp.mono fun k h=>.inr (by have h:k=D:=h;omega)))
   case stop =>
    rintro D c pre WW hD hSp ⟨⟨rfl,hA⟩,⟨hRWW,hx5⟩,hCW⟩ hKW
    obtain ⟨sp,hsp⟩:∃ sp,runL (fun (i:Fin (nK t)) s=>foldP F (kidF t i) (d+1) (b+moreZ t i) s) pre s1=(false,sp):=⟨_,Prod.ext hA rfl⟩
    have HRES:=Ak (show runL (fun (i:Fin (nK t)) s=>foldP F (kidF t i) (d+1) (b+moreZ t i) s) (List.finRange (nK t)) s1=(false,sp) by rw [runL_false _ hSp _ hA,hsp])
    rw [hsp] at hRWW
    have hszV:=hCW.size
    have hCWW:Chg (fun k=>G k∨w.heap.size≤k) w2 WW:=hCW.mono fun k h=>h.elim .inl fun h=>.inr (by omega)
    clear hA hsp hSp hCW
    gi_wp2
    have hgD:∀ k,G k→k≠D:=fun k hk e=>by have:=HGL.out k hk;omega
    have hp:=chg_put WW D (.deferred none)
    have hc5:(WW.putObj D (.deferred none)).cell? ⟨w.heap.size+1+1+1+1,0,none⟩=some (.bool false):=by
     rw [cell_of_row _ _ _ _ _ _ ((hp.block _ (blk_lt hx5) (by omega)).trans hx5)];rfl
    refine ⟨by simp,.inl ⟨_,_,rfl,run_takeDeferred hKW,?_⟩⟩
    refine ⟨.bool false,?_,?_⟩
    ·simp [results,Try.f58,go_sem,hc5]
    ·rw [HE.out,HRES.out]
     refine ⟨rfl,HRP.out _ _ _ hRWW (fun k hk=>hp.block k (by have:=HGL.out k hk;omega) (hgD k hk)),?_⟩
     refine chg_cut (Chg.of_below HB0.out) (HC1.out.mono fun k h=>.inl h) (chg_trans (chg_trans (Chg.of_below HB2.out) hCWW) (hp.mono fun k h=>.inr (by have h:k=D:=h;omega)))
end Go.Proofs.Ytdboloabpjmgaaa

namespace Go.Proofs.Ytdboloabpjmgaaa
open Go.RowKit Go.Shelf Go.Proofs.YtdboloabpjmgaaaW.PrintWords Go.RegionInvYtdboloabpjmgaaa Go.RegionEYtdboloabpjmgaaa
attribute [local go_sem] Oper.semAt_some

abbrev vrLi (gf gb:Nat):Value:=.func (.func 97) #[] #[.pointer (some ⟨gf,0,none⟩),.pointer (some ⟨gb,0,none⟩)]
abbrev rbWLi (w:World) (p:Pl) (t:Tm) (b:Int) (gf gb:Nat):World:=
 (((w.alloc (tmO p t)).alloc (.cells #[.int .i64 b] 3 (0,0))).alloc (.cells #[vrLi gf gb] 68 (0,0))).alloc (.cells #[.int .i64 0,.int .i64 0,.string ⟨#[]⟩,.int .i64 0,.int .i64 0,.slice none 0 0,.slice none 0 0,.slice none 0 0] 28 (0,0))
set_option maxRecDepth 100000 in
set_option maxHeartbeats 16000000 in
theorem reb_Li (RF:Tm→Int→Tm) (Rep:World→Prop) (S:Nat→Prop) (g0 g1:Nat) (h01:g0≤g1) (hS:∀ k,S k→k<g0) (gf gb:Nat)
  (hRep:∀ (W W':World),Rep W→(∀ k,k<g1→W'.heap[k]?=W.heap[k]?)→Rep W')
  (hvis:∀ (t:Tm) (p:Pl) (b:Int) (w:World),leafT t=true→0≤b→b≤1000000→g1≤w.heap.size→TmS w S p t→Rep w→Calls Try.prog 97 #[tmV p t,.int .i64 b,.pointer (some ⟨gf,0,none⟩),.pointer (some ⟨gb,0,none⟩)] w (TmGot w S (RF t b)))
  (N:Nat):∀ (t:Tm),SizeOf.sizeOf t<N→∀ (p:Pl) (b:Int) (w:World),0≤b→b+depthT t≤1000000→g1≤w.heap.size→TmS w S p t→Rep w →
  Calls Try.prog 60 #[tmV p t,.int .i64 b,vrLi gf gb] w (TmGot w S (rebP RF t b)):=by
 induction N with
 | zero=>intro t h;omega
 | succ N ih =>
  intro t hN p b w hb0 hb1 hg1 hin hR
  have hg:g0≤w.heap.size:=Nat.le_trans h01 hg1
  have IH:=Ak ih
  have HSS:=Ak hS
  have HRP:=Ak hRep
  have HVS:=Ak hvis
  have HIN:=Ak hin
  have HR:=Ak hR
  have HNN:=Ak hN
  have HBD:=Ak hb1
  have hdp:1≤depthT t:=by rw [depthT];omega
  have hb2:b≤1000000:=by omega
  have hz0:(rbWLi w p t b gf gb).heap.size=w.heap.size+4:=by simp
  have hb0w:Below w.heap.size w (rbWLi w p t b gf gb):=below_alloc (below_alloc (below_alloc (below_alloc (Below.refl _ _) _) _) _) _
  have HX0:=Ak (show (rbWLi w p t b gf gb).heap[w.heap.size]?=some (tmO p t) from blk_alloc (blk_alloc (blk_alloc (blk_new _ _) _) _) _)
  have HX1:=Ak (show (rbWLi w p t b gf gb).heap[w.heap.size+1]?=some (.cells #[.int .i64 b] 3 (0,0)) by have:=blk_new (w.alloc (tmO p t)) (.cells #[.int .i64 b] 3 (0,0));simp only [World.size_alloc] at this;exact blk_alloc (blk_alloc this _) _)
  have HX2:=Ak (show (rbWLi w p t b gf gb).heap[w.heap.size+1+1]?=some (.cells #[vrLi gf gb] 68 (0,0)) by have:=blk_new ((w.alloc (tmO p t)).alloc (.cells #[.int .i64 b] 3 (0,0))) (.cells #[vrLi gf gb] 68 (0,0));simp only [World.size_alloc] at this;exact blk_alloc this _)
  have HX3:=Ak (show (rbWLi w p t b gf gb).heap[w.heap.size+1+1+1]?=some (outK 0 (.slice none 0 0)) by have:=blk_new (((w.alloc (tmO p t)).alloc (.cells #[.int .i64 b] 3 (0,0))).alloc (.cells #[vrLi gf gb] 68 (0,0))) (outK 0 (.slice none 0 0));simp only [World.size_alloc] at this;exact this)
  have HZ0:=Ak hz0
  have HB0:=Ak hb0w
  clear ih hRep hvis hin hR hN hz0 hb0w hb1
  unfold tmV vrLi
  refine (callsIn_wide (n:=5)).1 ?_
  refine callsIn_of_wp_marks Try.func60 rfl trivial ?_ rfl
  simp only [Try.ntmps60,List.size_toArray,List.length_cons,List.length_nil,Nat.reduceAdd,Nat.reduceSub,Array.replicate_succ,Array.replicate_zero,List.push_toArray,List.append_toArray,List.nil_append,List.cons_append]
  cases hlf:leafT t with
  | true =>
   have HLF:=Ak hlf
   have HE:=Ak (reb_leaf (RF:=RF) (b:=b) hlf)
   clear hlf
   gi_wp2
   refine ⟨trivial,?_⟩
   gi_at_call 75
   refine (callsIn_wide.2 (leaf_calls t p _)).mono ?_
   rintro e w1 ⟨rfl,hb1⟩
   rw [HLF.out]
   have hX0:=(hb1.block w.heap.size (by rw [HZ0.out];omega)).trans HX0.out
   have hX1:=(hb1.block _ (by rw [HZ0.out];omega)).trans HX1.out
   have hX2:=(hb1.block _ (by rw [HZ0.out];omega)).trans HX2.out
   have hX3:=(hb1.block _ (by rw [HZ0.out];omega)).trans HX3.out
   have HX31:=Ak hX3
   have HB1:=Ak (show Below w.heap.size w w1 from Below.trans HB0.out (hb1.mono HB0.out.size))
   obtain ⟨c0,c1,c2,c3,c4,c5,c6,c7⟩:=row8 hX0
   have d1:w1.cell? ⟨w.heap.size+1,0,none⟩=some (.int .i64 b):=by (rw [cell_of_row _ _ _ _ _ _ hX1];rfl)
   have d2:w1.cell? ⟨w.heap.size+1+1,0,none⟩=some (vrLi gf gb):=by (rw [cell_of_row _ _ _ _ _ _ hX2];rfl)
   clear hb1 hX0 hX1 hX2 hX3
   gi_wp2
   refine ⟨trivial,?_⟩
   gi_at_call 97
   refine (callsIn_wide.2 (HVS.out t p b w1 HLF.out hb0 hb2 (Nat.le_trans hg1 HB1.out.size) (TmS.stay HIN.out HSS.out (HB1.out.mono hg)) (HRP.out _ _ HR.out (fun k hk=>HB1.out.block k (by omega))))).mono ?_
   rintro e w3 ⟨q9,rfl,ht9,hb3⟩
   have hX3:=(hb3.block _ (blk_lt HX31.out)).trans HX31.out
   have HX33:=Ak hX3
   have HT9:=Ak ht9
   have HB3:=Ak hb3
   obtain ⟨r0,r1,r2,r3,r4,r5,r6,r7,f0,f1,f2,f3,f4,f5,f6,f7⟩:=row8c hX3
   obtain ⟨y,hy⟩:∃ y,y=RF t b:=⟨_,rfl⟩
   rw [← hy] at HT9 HE ⊢
   clear hX3 ht9 hb3 hy c0 c1 c2 c3 c4 c5 c6 c7
   unfold tmV
   gi_wp2
   refine ⟨_,results_c rfl _ _ (w.heap.size+1+1+1) 28 #[.int .i64 y.kind,.int .i64 y.num,.string y.name,.int .i64 y.lv.kind,.int .i64 y.lv.num,.slice q9.A y.lv.kids.length q9.c,.slice q9.B y.ls.length q9.d,.slice q9.K y.kids.length q9.e] (0,0) _ rfl (set8 HX33.out) Try.underlying28 rfl (by kernel_rfl),?_⟩
   have hch:=chg_set8 w3 (w.heap.size+1+1+1) (.int .i64 y.kind) (.int .i64 y.num) (.string y.name) (.int .i64 y.lv.kind) (.int .i64 y.lv.num) (.slice q9.A y.lv.kids.length q9.c) (.slice q9.B y.ls.length q9.d) (.slice q9.K y.kids.length q9.e)
   rw [HE.out]
   have hz1:=blk_lt HX31.out
   exact ⟨q9,rfl,(HT9.out.same fun k hk hz=>hch.block k hz (by rcases hk with hk | hk;have:=HSS.out _ hk;omega;omega)).mono fun k hk _=>hk.imp id fun h=>by omega,Chg.trans_below (below_then HB1.out HB1.out.size HB3.out) hch (fun _ e=>by omega) (Nat.le_trans HB1.out.size HB3.out.size)⟩
  | false =>
   have HLF:=Ak hlf
   have HE:=Ak (reb_node (RF:=RF) (b:=b) hlf)
   clear hlf
   gi_wp2
   refine ⟨trivial,?_⟩
   gi_at_call 75
   refine (callsIn_wide.2 (leaf_calls t p _)).mono ?_
   rintro e w1 ⟨rfl,hb1⟩
   rw [HLF.out]
   have hX0:=(hb1.block w.heap.size (by rw [HZ0.out];omega)).trans HX0.out
   have hX1:=(hb1.block _ (by rw [HZ0.out];omega)).trans HX1.out
   have hX2:=(hb1.block _ (by rw [HZ0.out];omega)).trans HX2.out
   have hX3:=(hb1.block _ (by rw [HZ0.out];omega)).trans HX3.out
   have hz1:w.heap.size+4≤w1.heap.size:=by have:=hb1.size;rw [HZ0.out] at this;exact this
   have HX01:=Ak hX0
   have HX11:=Ak hX1
   have HX21:=Ak hX2
   have HX31:=Ak hX3
   have HB1:=Ak (show Below w.heap.size w w1 from Below.trans HB0.out (hb1.mono HB0.out.size))
   obtain ⟨c0,c1,c2,c3,c4,c5,c6,c7⟩:=row8 hX0
   have hlt0:w.heap.size<w1.heap.size:=by omega
   clear hb1 hX0 hX1 hX2 hX3
   gi_wp2
   refine ⟨trivial,?_⟩
   gi_at_call 96
   obtain ⟨W1,hW1⟩:∃ W1,W1=w1.alloc (outK t.kind (.slice none 0 0)):=⟨_,rfl⟩
   rw [← hW1]
   have HO1:=Ak (show W1.heap[w1.heap.size]?=some (outK t.kind (.slice none 0 0)) by rw [hW1];exact blk_new _ _)
   have HBW1:=Ak (show Below w1.heap.size w1 W1 by rw [hW1];exact below_alloc (Below.refl _ _) _)
   have HZW1:=Ak (show W1.heap.size=w1.heap.size+1 by rw [hW1];simp)
   refine (callsIn_wide.2 (tkids_calls p t W1)).mono ?_
   rintro e w2 ⟨rfl,hw2⟩
   have HZX2:=Ak (show w2.heap[W1.heap.size]?=some (tmO p t) by rw [hw2];exact blk_new _ _)
   have HB2:=Ak (show Below W1.heap.size W1 w2 by rw [hw2];exact below_alloc (Below.refl _ _) _)
   have HZW2:=Ak (show w2.heap.size=W1.heap.size+1 by rw [hw2];simp)
   clear hw2 hW1 c0 c1 c2 c3 c4 c5 c6 c7
   have HBB:=Ak (show Below w1.heap.size w1 w2 from Below.trans HBW1.out (HB2.out.mono (by have:=HZW1.out;omega)))
   have HO2:=Ak (show w2.heap[w1.heap.size]?=some (outK t.kind (.slice none 0 0)) from (HB2.out.block _ (by have:=HZW1.out;omega)).trans HO1.out)
   gi_wp2
   obtain ⟨q,hq⟩:=(TmS.stay HIN.out HSS.out (Below.trans (HB1.out.mono hg) (HBB.out.mono (by omega)))).kid
   have HQ:=Ak hq
   have hlen:=HIN.out.len
   have hzz:=blk_lt HZX2.out
   have hzs:w1.heap.size<W1.heap.size:=by have:=HZW1.out;omega
   have hzs2:W1.heap.size<w2.heap.size:=hzz
   clear hq
   refine wpIn_rangeFunc_ownH (F:=Fence.wide) rfl (by decide) (gf:=117) (lb:=#[.pointer (some ⟨W1.heap.size,0,none⟩)]) rfl trivial (enters_of Try.func117 (by kernel_rfl) rfl)
    (kids_stops (5 - 1) (by decide) p t q W1.heap.size w2.heap.size (fun k=>k=w1.heap.size) S w2 HZX2.out hzz (Nat.le_refl _) (fun e=>by omega) (fun k hk=>by have hk:=HSS.out _ hk;exact ⟨by omega,fun h=>by omega⟩) (by omega) (fun i x hx=>(HQ.out i x hx).1))
    kpG_trans (kpG_put (Nat.le_refl _)) (Below.refl _ _) (fun _=>rfl)
    (fun pre W=>∃ V,W.heap[w1.heap.size]?=some (outK t.kind V)∧KidsT W S w2.heap.size V (rebKids RF t b pre)∧Chg (fun k=>k=w1.heap.size) w2 W)
    (fun _ _ _=>False)
    (fun pre X Y row hs hg hr=>by obtain ⟨V,h1,h2,h3⟩:=hs;exact ⟨V,(hg.block _ (blk_lt h1) (fun e=>by have:=(hr _ e.symm).1;omega)).trans h1,h2.grown hg (fun r e=>row_no (hr r e).2),chg_grown h3 hg (fun r e=>(hr r e).1)⟩)
    (fun c pre X Y row hs hg hr=>hs)
    ⟨.slice none 0 0,HO2.out,KidsT.nil _ _ _,Chg.refl _ _⟩
    (fun x a' W=>∃ Bx,w2.heap.size≤Bx∧W.heap[Bx]?=some (tmO (q x) (kidF t x))∧(∀ V,W.heap[w1.heap.size]?=some (outK t.kind V)→V.ownBlock≠some Bx)∧a' = { tmps:=#[tmV p t,.int .i64 b,vrLi gf gb,.pointer (some ⟨w.heap.size,0,none⟩),.pointer (some ⟨w.heap.size+1,0,none⟩),.pointer (some ⟨w.heap.size+1+1,0,none⟩),.pointer (some ⟨w.heap.size+1+1+1,0,none⟩),.pointer (some ⟨w1.heap.size,0,none⟩),.int .i64 (moreZ t x),.pointer (some ⟨Bx,0,none⟩),tmV p t,.bool false,undef,undef,undef,undef,.pointer (some ⟨w.heap.size,0,none⟩),.int .i64 t.kind,.agg #[.int .i64 t.kind,.int .i64 0,.string ⟨#[]⟩,.int .i64 0,.int .i64 0,.slice none 0 0,.slice none 0 0,.slice none 0 0],tmV p t,.func (.func 117) #[] #[.pointer (some ⟨W1.heap.size,0,none⟩)],.int .i64 (moreZ t x),tmV (q x) (kidF t x),undef,undef,undef,undef,undef,undef,undef,undef,undef,undef,undef,undef,undef,undef],defers:=[] })
    (fun x a' _ X Y row hs hg hr=>by
     obtain ⟨Bx,h1,h2,h3,h4⟩:=hs
     refine ⟨Bx,h1,(hg.block _ (blk_lt h2) (fun e=>by obtain ⟨o,ho,hc⟩:=(hr _ e.symm).2;rw [h2] at ho;cases ho;cases hc)).trans h2,fun V hV=>?_,h4⟩
     by_cases hz:w1.heap.size<X.heap.size
     ·exact h3 V ((hg.block _ hz (fun e=>by have:=(hr _ e.symm).1;omega)).symm.trans hV)
     ·exact absurd (blk_lt h2) (by omega))
    ?assign ?body ?done ?stop
   case assign =>
    rintro l pre x W K ⟨V,hVO,hKT,hCW⟩ hK
    dsimp only [encK,tmV]
    have hb1:Below W.heap.size W (W.alloc (tmO (q x) (kidF t x))):=below_alloc (Below.refl _ _) _
    have HKK:=Ak (hK { tmps:=#[tmV p t,.int .i64 b,vrLi gf gb,.pointer (some ⟨w.heap.size,0,none⟩),.pointer (some ⟨w.heap.size+1,0,none⟩),.pointer (some ⟨w.heap.size+1+1,0,none⟩),.pointer (some ⟨w.heap.size+1+1+1,0,none⟩),.pointer (some ⟨w1.heap.size,0,none⟩),.int .i64 (moreZ t x),.pointer (some ⟨W.heap.size,0,none⟩),tmV p t,.bool false,undef,undef,undef,undef,.pointer (some ⟨w.heap.size,0,none⟩),.int .i64 t.kind,.agg #[.int .i64 t.kind,.int .i64 0,.string ⟨#[]⟩,.int .i64 0,.int .i64 0,.slice none 0 0,.slice none 0 0,.slice none 0 0],tmV p t,.func (.func 117) #[] #[.pointer (some ⟨W1.heap.size,0,none⟩)],.int .i64 (moreZ t x),tmV (q x) (kidF t x),undef,undef,undef,undef,undef,undef,undef,undef,undef,undef,undef,undef,undef,undef],defers:=[] } _ (KeepsFrom.of_chg (Chg.of_below (S:=fun _=>False) hb1) (fun k h=>h.elim)) ⟨hb1.size,fun k hk _=>hb1.block k (by have:=hCW.size;omega)⟩ ⟨V,blk_alloc hVO _,hKT.later hb1,chg_trans hCW (Chg.of_below hb1)⟩
     ⟨W.heap.size,hCW.size,blk_new _ _,fun V' hV'=>by
      have e1:=(blk_alloc hVO (tmO (q x) (kidF t x))).symm.trans hV'
      obtain rfl:V=V':=by injection e1 with e1;injection e1 with e1;injection e1 with e1;simpa using e1
      obtain ⟨cells,qq,ho,_⟩:=hKT
      intro e
      have:=own_lt ho _ e
      omega,rfl⟩)
    clear hK hKT hCW hVO hb1
    gi_wp2
    exact HKK.out
   case body =>
    rintro l pre x a' W hl ⟨r,hr⟩ ⟨V,hVO,hKT,hCW⟩ ⟨Bx,hBx,bX,hVB,rfl⟩ hlt
    have hVB2:=hVB V hVO
    obtain ⟨cells,qq,hown,hkids⟩:=hKT
    obtain ⟨A9,c9,rfl⟩:=own_slice hown
    have hszW:=hCW.size
    have hn3:=nK_le3 t
    have HPL:=Ak (rebKids_len RF t b pre)
    have hmz:=moreZ_in t x
    have HDK:=Ak (depth_kid t x)
    have hbm:0≤b+moreZ t x∧b+moreZ t x≤2000000:=by omega
    have st:∀ j,j<w1.heap.size→W.heap[j]?=w1.heap[j]?:=fun j h1=>(hCW.block j (by omega) (by omega)).trans (HBB.out.block j h1)
    have hX1:=(st _ (by omega)).trans HX11.out
    have hX2:=(st _ (by omega)).trans HX21.out
    have HIH:=Ak (show ∀ w',W.heap.size≤w'.heap.size→(∀ k,k<g1→w'.heap[k]?=W.heap[k]?)→Calls Try.prog 60 #[tmV (q x) (kidF t x),.int .i64 (b+moreZ t x),vrLi gf gb] w' (TmGot w' S (rebP RF (kidF t x) (b+moreZ t x))) from fun w' hz hs=>by
     have hs2:∀ k,k<g1→w'.heap[k]?=w.heap[k]?:=fun k hk=>(hs k hk).trans ((st k (by omega)).trans (HB1.out.block k (by omega)))
     have hs3:∀ k,k<g1→w'.heap[k]?=w2.heap[k]?:=fun k hk=>(hs2 k hk).trans ((HBB.out.block k (by omega)).trans (HB1.out.block k (by omega))).symm
     exact IH.out (kidF t x) (by have:=kidF_lt t x;have:=HNN.out;omega) (q x) (b+moreZ t x) w' (by omega) (by have:=HBD.out;have:=HDK.out;omega) (by omega) ((HQ.out x _ (kidF_get t x)).2.same fun k hk _=>hs3 k (Nat.lt_of_lt_of_le (HSS.out _ hk) h01)) (HRP.out _ _ HR.out hs2))
    have HKID:=Ak hkids
    have HOWN:=Ak hown
    have HBX:=Ak bX
    have HVO:=Ak hVO
    have HCW:=Ak hCW
    obtain ⟨L,hL⟩:∃ L,(rebKids RF t b pre).length=L:=⟨_,rfl⟩
    have hL3:L≤3:=by rw [← hL,HPL.out];omega
    have HLE:=Ak hL
    clear st hl hVB hkids hown bX hVO hCW
    rw [hL] at hVB2 HOWN HVO HKID
    clear hL
    refine wpIn_block ?_
    refine rb_region ?hq W S w1.heap.size Bx (w.heap.size+1) (w.heap.size+1+1) w2.heap.size g0 g1 L c9 A9 cells t.kind b (moreZ t x) (q x) (kidF t x) (rebP RF (kidF t x) (b+moreZ t x)) (vrLi gf gb) HSS.out HVO.out HBX.out hX1 hX2 HOWN.out (by omega) (by omega) (by omega) hVB2 (by omega) (by omega) (by omega) (by omega) (by omega) (by omega) HIH.out ?_
    case hq =>
     rintro ⟨a1,wx,h⟩
     exact h
    intro w' u30 u32 u33 u34 O9 O11 v12 O12 v14 O14 hch _ _ h11 _ h12 hO12 h14 _ hap
    have hfin:=reb_round HLE.out HKID.out HOWN.out hch h12 hO12 (fun h=>hap _ h h14.2) (by omega) (by omega) (by omega) HSS.out
    have hsn:=rebKids_snoc RF t b pre x
    have hz':=hch.size
    have hC2:Chg (fun k=>k=w1.heap.size) w2 w':=⟨hch.os.trans HCW.out.os,hch.tape.trans HCW.out.tape,hch.output.trans HCW.out.output,Nat.le_trans HCW.out.size hch.size,fun k hk hn=>(hch.block k (by omega) (fun e=>e.elim (fun e=>by have:=own_base HOWN.out k e;omega) hn)).trans (HCW.out.block k hk hn)⟩
    exact ⟨⟨hch.size,fun k o hBk ho hc=>(hch.block k (blk_lt ho) (fun e=>e.elim (fun e=>own_cells HOWN.out e ho hc) (fun e=>by have e:k=w1.heap.size:=e;omega))).trans ho⟩,⟨hch.size,fun k hk hg=>hch.block k (by omega) (fun e=>e.elim (fun e=>by have:=own_base HOWN.out k e;omega) hg)⟩,u33,h14.1,by rw [hsn];exact hfin,hC2⟩
   case stop =>
    rintro D c pre WW hD hSp hf hKW
    exact hf.elim
   case done =>
    rintro D ys W hD rfl ⟨V,hVO,hKT,hCW⟩ hK
    obtain ⟨K9,e9,rfl,hterm⟩:=hKT.term
    have HTM:=Ak (hterm t.kind 0 noName ⟨by decide,by decide,by simp⟩)
    have hszW:=hCW.size
    have hres:=(hCW.block (w.heap.size+1+1+1) (by omega) (by omega)).trans ((HBB.out.block _ (by omega)).trans HX31.out)
    have HRES:=Ak hres
    have HKD:=Ak hK
    have HCW:=Ak hCW
    obtain ⟨o0,o1,o2,o3,o4,o5,o6,o7,-,-,-,-,-,-,-,-⟩:=row8c hVO
    obtain ⟨r0,r1,r2,r3,r4,r5,r6,r7,f0,f1,f2,f3,f4,f5,f6,f7⟩:=row8c hres
    have hz5:w1.heap.size<W.heap.size:=by omega
    have hne5:w1.heap.size≠w.heap.size+1+1+1:=by omega
    obtain ⟨m9,hm9⟩:∃ m,(rebKids RF t b (List.finRange (nK t))).length=m:=⟨_,rfl⟩
    have HM9:=Ak hm9
    rw [hm9] at o7
    clear hVO hKT hCW hK hterm hres hm9
    gi_wp2
    have hch:=chg_set8 W (w.heap.size+1+1+1) (.int .i64 t.kind) (.int .i64 0) (.string ⟨#[]⟩) (.int .i64 0) (.int .i64 0) (.slice none 0 0) (.slice none 0 0) (.slice K9 m9 e9)
    have hx5:=set8 (a0:=.int .i64 t.kind) (a1:=.int .i64 0) (a2:=.string ⟨#[]⟩) (a3:=.int .i64 0) (a4:=.int .i64 0) (a5:=.slice none 0 0) (a6:=.slice none 0 0) (a7:=.slice K9 m9 e9) HRES.out
    obtain ⟨WW,hWW⟩:∃ WW,WW=((((((((W.setCell ⟨w.heap.size+1+1+1,0,none⟩ (.int .i64 t.kind)).setCell ⟨w.heap.size+1+1+1,1,none⟩ (.int .i64 0)).setCell ⟨w.heap.size+1+1+1,2,none⟩ (.string ⟨#[]⟩)).setCell ⟨w.heap.size+1+1+1,3,none⟩ (.int .i64 0)).setCell ⟨w.heap.size+1+1+1,4,none⟩ (.int .i64 0)).setCell ⟨w.heap.size+1+1+1,5,none⟩ (.slice none 0 0)).setCell ⟨w.heap.size+1+1+1,6,none⟩ (.slice none 0 0)).setCell ⟨w.heap.size+1+1+1,7,none⟩ (.slice K9 m9 e9)):=⟨_,rfl⟩
    rw [← hWW] at hch hx5 ⊢
    clear hWW
    have hszV:=hch.size
    have hKW:WW.heap[D]?=some (.deferred (some [])):=(hch.block D (blk_lt HKD.out) (by omega)).trans HKD.out
    have hp:=chg_put WW D (.deferred none)
    have hx6:(WW.putObj D (.deferred none)).heap[w.heap.size+1+1+1]?=some (.cells #[.int .i64 t.kind,.int .i64 0,.string ⟨#[]⟩,.int .i64 0,.int .i64 0,.slice none 0 0,.slice none 0 0,.slice K9 m9 e9] 28 (0,0)):=(hp.block _ (blk_lt hx5) (by omega)).trans hx5
    refine ⟨by simp,.inl ⟨_,_,rfl,run_takeDeferred hKW,?_⟩⟩
    refine ⟨_,results_c rfl _ _ (w.heap.size+1+1+1) 28 #[.int .i64 t.kind,.int .i64 0,.string ⟨#[]⟩,.int .i64 0,.int .i64 0,.slice none 0 0,.slice none 0 0,.slice K9 m9 e9] (0,0) _ rfl hx6 Try.underlying28 rfl (by kernel_rfl),?_⟩
    rw [HE.out]
    have hnD:∀ k,CellsB W k→k≠D:=by
     rintro k ⟨cs,tt,fr,hk⟩ e
     rw [e,HKD.out] at hk
     cases hk
    refine ⟨⟨none,0,none,0,K9,e9⟩,by unfold tmV;rw [← HM9.out];rfl,((HTM.out.cells).same fun k hk hz=>(hp.block k (by omega) (hnD k hk.2)).trans (hch.block k hz (by rcases hk.1 with h | h;have:=HSS.out _ h;omega;omega))).mono fun k hk _=>hk.1.imp id fun h=>by omega,?_⟩
    refine Chg.trans_below (S:=fun k=>k=w1.heap.size∨k=w.heap.size+1+1+1∨k=D) (Below.trans HB1.out (HBB.out.mono HB1.out.size)) ?_ (fun k h=>by omega) (by have:=HB1.out.size;omega)
    exact chg_trans (HCW.out.mono fun k h=>.inl h) (chg_trans (hch.mono fun k h=>.inr (.inl h)) (hp.mono fun k h=>.inr (.inr h)))
end Go.Proofs.Ytdboloabpjmgaaa

namespace Go.Proofs.Ytdboloabpjmgaaa
open Go.RowKit Go.Shelf Go.Proofs.YtdboloabpjmgaaaW.PrintWords Go.RegionInvYtdboloabpjmgaaa Go.RegionEYtdboloabpjmgaaa
attribute [local go_sem] Oper.semAt_some

abbrev vrOw  : Value:=.func (.func 94) #[] #[]
abbrev rbWOw (w:World) (p:Pl) (t:Tm) (b:Int)  : World:=
 (((w.alloc (tmO p t)).alloc (.cells #[.int .i64 b] 3 (0,0))).alloc (.cells #[vrOw ] 68 (0,0))).alloc (.cells #[.int .i64 0,.int .i64 0,.string ⟨#[]⟩,.int .i64 0,.int .i64 0,.slice none 0 0,.slice none 0 0,.slice none 0 0] 28 (0,0))
set_option maxRecDepth 100000 in
set_option maxHeartbeats 16000000 in
theorem reb_Ow (RF:Tm→Int→Tm) (Rep:World→Prop) (S:Nat→Prop) (g0 g1:Nat) (h01:g0≤g1) (hS:∀ k,S k→k<g0)
  (hRep:∀ (W W':World),Rep W→(∀ k,k<g1→W'.heap[k]?=W.heap[k]?)→Rep W')
  (hvis:∀ (t:Tm) (p:Pl) (b:Int) (w:World),leafT t=true→0≤b→b≤1000000→g1≤w.heap.size→TmS w S p t→Rep w→Calls Try.prog 94 #[tmV p t,.int .i64 b] w (TmGot w S (RF t b)))
  (N:Nat):∀ (t:Tm),SizeOf.sizeOf t<N→∀ (p:Pl) (b:Int) (w:World),0≤b→b+depthT t≤1000000→g1≤w.heap.size→TmS w S p t→Rep w →
  Calls Try.prog 60 #[tmV p t,.int .i64 b,vrOw ] w (TmGot w S (rebP RF t b)):=by
 induction N with
 | zero=>intro t h;omega
 | succ N ih =>
  intro t hN p b w hb0 hb1 hg1 hin hR
  have hg:g0≤w.heap.size:=Nat.le_trans h01 hg1
  have IH:=Ak ih
  have HSS:=Ak hS
  have HRP:=Ak hRep
  have HVS:=Ak hvis
  have HIN:=Ak hin
  have HR:=Ak hR
  have HNN:=Ak hN
  have HBD:=Ak hb1
  have hdp:1≤depthT t:=by rw [depthT];omega
  have hb2:b≤1000000:=by omega
  have hz0:(rbWOw w p t b ).heap.size=w.heap.size+4:=by simp
  have hb0w:Below w.heap.size w (rbWOw w p t b ):=below_alloc (below_alloc (below_alloc (below_alloc (Below.refl _ _) _) _) _) _
  have HX0:=Ak (show (rbWOw w p t b ).heap[w.heap.size]?=some (tmO p t) from blk_alloc (blk_alloc (blk_alloc (blk_new _ _) _) _) _)
  have HX1:=Ak (show (rbWOw w p t b ).heap[w.heap.size+1]?=some (.cells #[.int .i64 b] 3 (0,0)) by have:=blk_new (w.alloc (tmO p t)) (.cells #[.int .i64 b] 3 (0,0));simp only [World.size_alloc] at this;exact blk_alloc (blk_alloc this _) _)
  have HX2:=Ak (show (rbWOw w p t b ).heap[w.heap.size+1+1]?=some (.cells #[vrOw ] 68 (0,0)) by have:=blk_new ((w.alloc (tmO p t)).alloc (.cells #[.int .i64 b] 3 (0,0))) (.cells #[vrOw ] 68 (0,0));simp only [World.size_alloc] at this;exact blk_alloc this _)
  have HX3:=Ak (show (rbWOw w p t b ).heap[w.heap.size+1+1+1]?=some (outK 0 (.slice none 0 0)) by have:=blk_new (((w.alloc (tmO p t)).alloc (.cells #[.int .i64 b] 3 (0,0))).alloc (.cells #[vrOw ] 68 (0,0))) (outK 0 (.slice none 0 0));simp only [World.size_alloc] at this;exact this)
  have HZ0:=Ak hz0
  have HB0:=Ak hb0w
  clear ih hRep hvis hin hR hN hz0 hb0w hb1
  unfold tmV vrOw
  refine (callsIn_wide (n:=5)).1 ?_
  refine callsIn_of_wp_marks Try.func60 rfl trivial ?_ rfl
  simp only [Try.ntmps60,List.size_toArray,List.length_cons,List.length_nil,Nat.reduceAdd,Nat.reduceSub,Array.replicate_succ,Array.replicate_zero,List.push_toArray,List.append_toArray,List.nil_append,List.cons_append]
  cases hlf:leafT t with
  | true =>
   have HLF:=Ak hlf
   have HE:=Ak (reb_leaf (RF:=RF) (b:=b) hlf)
   clear hlf
   gi_wp2
   refine ⟨trivial,?_⟩
   gi_at_call 75
   refine (callsIn_wide.2 (leaf_calls t p _)).mono ?_
   rintro e w1 ⟨rfl,hb1⟩
   rw [HLF.out]
   have hX0:=(hb1.block w.heap.size (by rw [HZ0.out];omega)).trans HX0.out
   have hX1:=(hb1.block _ (by rw [HZ0.out];omega)).trans HX1.out
   have hX2:=(hb1.block _ (by rw [HZ0.out];omega)).trans HX2.out
   have hX3:=(hb1.block _ (by rw [HZ0.out];omega)).trans HX3.out
   have HX31:=Ak hX3
   have HB1:=Ak (show Below w.heap.size w w1 from Below.trans HB0.out (hb1.mono HB0.out.size))
   obtain ⟨c0,c1,c2,c3,c4,c5,c6,c7⟩:=row8 hX0
   have d1:w1.cell? ⟨w.heap.size+1,0,none⟩=some (.int .i64 b):=by (rw [cell_of_row _ _ _ _ _ _ hX1];rfl)
   have d2:w1.cell? ⟨w.heap.size+1+1,0,none⟩=some (vrOw ):=by (rw [cell_of_row _ _ _ _ _ _ hX2];rfl)
   clear hb1 hX0 hX1 hX2 hX3
   gi_wp2
   refine ⟨trivial,?_⟩
   gi_at_call 94
   refine (callsIn_wide.2 (HVS.out t p b w1 HLF.out hb0 hb2 (Nat.le_trans hg1 HB1.out.size) (TmS.stay HIN.out HSS.out (HB1.out.mono hg)) (HRP.out _ _ HR.out (fun k hk=>HB1.out.block k (by omega))))).mono ?_
   rintro e w3 ⟨q9,rfl,ht9,hb3⟩
   have hX3:=(hb3.block _ (blk_lt HX31.out)).trans HX31.out
   have HX33:=Ak hX3
   have HT9:=Ak ht9
   have HB3:=Ak hb3
   obtain ⟨r0,r1,r2,r3,r4,r5,r6,r7,f0,f1,f2,f3,f4,f5,f6,f7⟩:=row8c hX3
   obtain ⟨y,hy⟩:∃ y,y=RF t b:=⟨_,rfl⟩
   rw [← hy] at HT9 HE ⊢
   clear hX3 ht9 hb3 hy c0 c1 c2 c3 c4 c5 c6 c7
   unfold tmV
   gi_wp2
   refine ⟨_,results_c rfl _ _ (w.heap.size+1+1+1) 28 #[.int .i64 y.kind,.int .i64 y.num,.string y.name,.int .i64 y.lv.kind,.int .i64 y.lv.num,.slice q9.A y.lv.kids.length q9.c,.slice q9.B y.ls.length q9.d,.slice q9.K y.kids.length q9.e] (0,0) _ rfl (set8 HX33.out) Try.underlying28 rfl (by kernel_rfl),?_⟩
   have hch:=chg_set8 w3 (w.heap.size+1+1+1) (.int .i64 y.kind) (.int .i64 y.num) (.string y.name) (.int .i64 y.lv.kind) (.int .i64 y.lv.num) (.slice q9.A y.lv.kids.length q9.c) (.slice q9.B y.ls.length q9.d) (.slice q9.K y.kids.length q9.e)
   rw [HE.out]
   have hz1:=blk_lt HX31.out
   exact ⟨q9,rfl,(HT9.out.same fun k hk hz=>hch.block k hz (by rcases hk with hk | hk;have:=HSS.out _ hk;omega;omega)).mono fun k hk _=>hk.imp id fun h=>by omega,Chg.trans_below (below_then HB1.out HB1.out.size HB3.out) hch (fun _ e=>by omega) (Nat.le_trans HB1.out.size HB3.out.size)⟩
  | false =>
   have HLF:=Ak hlf
   have HE:=Ak (reb_node (RF:=RF) (b:=b) hlf)
   clear hlf
   gi_wp2
   refine ⟨trivial,?_⟩
   gi_at_call 75
   refine (callsIn_wide.2 (leaf_calls t p _)).mono ?_
   rintro e w1 ⟨rfl,hb1⟩
   rw [HLF.out]
   have hX0:=(hb1.block w.heap.size (by rw [HZ0.out];omega)).trans HX0.out
   have hX1:=(hb1.block _ (by rw [HZ0.out];omega)).trans HX1.out
   have hX2:=(hb1.block _ (by rw [HZ0.out];omega)).trans HX2.out
   have hX3:=(hb1.block _ (by rw [HZ0.out];omega)).trans HX3.out
   have hz1:w.heap.size+4≤w1.heap.size:=by have:=hb1.size;rw [HZ0.out] at this;exact this
   have HX01:=Ak hX0
   have HX11:=Ak hX1
   have HX21:=Ak hX2
   have HX31:=Ak hX3
   have HB1:=Ak (show Below w.heap.size w w1 from Below.trans HB0.out (hb1.mono HB0.out.size))
   obtain ⟨c0,c1,c2,c3,c4,c5,c6,c7⟩:=row8 hX0
   have hlt0:w.heap.size<w1.heap.size:=by omega
   clear hb1 hX0 hX1 hX2 hX3
   gi_wp2
   refine ⟨trivial,?_⟩
   gi_at_call 96
   obtain ⟨W1,hW1⟩:∃ W1,W1=w1.alloc (outK t.kind (.slice none 0 0)):=⟨_,rfl⟩
   rw [← hW1]
   have HO1:=Ak (show W1.heap[w1.heap.size]?=some (outK t.kind (.slice none 0 0)) by rw [hW1];exact blk_new _ _)
   have HBW1:=Ak (show Below w1.heap.size w1 W1 by rw [hW1];exact below_alloc (Below.refl _ _) _)
   have HZW1:=Ak (show W1.heap.size=w1.heap.size+1 by rw [hW1];simp)
   refine (callsIn_wide.2 (tkids_calls p t W1)).mono ?_
   rintro e w2 ⟨rfl,hw2⟩
   have HZX2:=Ak (show w2.heap[W1.heap.size]?=some (tmO p t) by rw [hw2];exact blk_new _ _)
   have HB2:=Ak (show Below W1.heap.size W1 w2 by rw [hw2];exact below_alloc (Below.refl _ _) _)
   have HZW2:=Ak (show w2.heap.size=W1.heap.size+1 by rw [hw2];simp)
   clear hw2 hW1 c0 c1 c2 c3 c4 c5 c6 c7
   have HBB:=Ak (show Below w1.heap.size w1 w2 from Below.trans HBW1.out (HB2.out.mono (by have:=HZW1.out;omega)))
   have HO2:=Ak (show w2.heap[w1.heap.size]?=some (outK t.kind (.slice none 0 0)) from (HB2.out.block _ (by have:=HZW1.out;omega)).trans HO1.out)
   gi_wp2
   obtain ⟨q,hq⟩:=(TmS.stay HIN.out HSS.out (Below.trans (HB1.out.mono hg) (HBB.out.mono (by omega)))).kid
   have HQ:=Ak hq
   have hlen:=HIN.out.len
   have hzz:=blk_lt HZX2.out
   have hzs:w1.heap.size<W1.heap.size:=by have:=HZW1.out;omega
   have hzs2:W1.heap.size<w2.heap.size:=hzz
   clear hq
   refine wpIn_rangeFunc_ownH (F:=Fence.wide) rfl (by decide) (gf:=117) (lb:=#[.pointer (some ⟨W1.heap.size,0,none⟩)]) rfl trivial (enters_of Try.func117 (by kernel_rfl) rfl)
    (kids_stops (5 - 1) (by decide) p t q W1.heap.size w2.heap.size (fun k=>k=w1.heap.size) S w2 HZX2.out hzz (Nat.le_refl _) (fun e=>by omega) (fun k hk=>by have hk:=HSS.out _ hk;exact ⟨by omega,fun h=>by omega⟩) (by omega) (fun i x hx=>(HQ.out i x hx).1))
    kpG_trans (kpG_put (Nat.le_refl _)) (Below.refl _ _) (fun _=>rfl)
    (fun pre W=>∃ V,W.heap[w1.heap.size]?=some (outK t.kind V)∧KidsT W S w2.heap.size V (rebKids RF t b pre)∧Chg (fun k=>k=w1.heap.size) w2 W)
    (fun _ _ _=>False)
    (fun pre X Y row hs hg hr=>by obtain ⟨V,h1,h2,h3⟩:=hs;exact ⟨V,(hg.block _ (blk_lt h1) (fun e=>by have:=(hr _ e.symm).1;omega)).trans h1,h2.grown hg (fun r e=>row_no (hr r e).2),chg_grown h3 hg (fun r e=>(hr r e).1)⟩)
    (fun c pre X Y row hs hg hr=>hs)
    ⟨.slice none 0 0,HO2.out,KidsT.nil _ _ _,Chg.refl _ _⟩
    (fun x a' W=>∃ Bx,w2.heap.size≤Bx∧W.heap[Bx]?=some (tmO (q x) (kidF t x))∧(∀ V,W.heap[w1.heap.size]?=some (outK t.kind V)→V.ownBlock≠some Bx)∧a' = { tmps:=#[tmV p t,.int .i64 b,vrOw ,.pointer (some ⟨w.heap.size,0,none⟩),.pointer (some ⟨w.heap.size+1,0,none⟩),.pointer (some ⟨w.heap.size+1+1,0,none⟩),.pointer (some ⟨w.heap.size+1+1+1,0,none⟩),.pointer (some ⟨w1.heap.size,0,none⟩),.int .i64 (moreZ t x),.pointer (some ⟨Bx,0,none⟩),tmV p t,.bool false,undef,undef,undef,undef,.pointer (some ⟨w.heap.size,0,none⟩),.int .i64 t.kind,.agg #[.int .i64 t.kind,.int .i64 0,.string ⟨#[]⟩,.int .i64 0,.int .i64 0,.slice none 0 0,.slice none 0 0,.slice none 0 0],tmV p t,.func (.func 117) #[] #[.pointer (some ⟨W1.heap.size,0,none⟩)],.int .i64 (moreZ t x),tmV (q x) (kidF t x),undef,undef,undef,undef,undef,undef,undef,undef,undef,undef,undef,undef,undef,undef],defers:=[] })
    (fun x a' _ X Y row hs hg hr=>by
     obtain ⟨Bx,h1,h2,h3,h4⟩:=hs
     refine ⟨Bx,h1,(hg.block _ (blk_lt h2) (fun e=>by obtain ⟨o,ho,hc⟩:=(hr _ e.symm).2;rw [h2] at ho;cases ho;cases hc)).trans h2,fun V hV=>?_,h4⟩
     by_cases hz:w1.heap.size<X.heap.size
     ·exact h3 V ((hg.block _ hz (fun e=>by have:=(hr _ e.symm).1;omega)).symm.trans hV)
     ·exact absurd (blk_lt h2) (by omega))
    ?assign ?body ?done ?stop
   case assign =>
    rintro l pre x W K ⟨V,hVO,hKT,hCW⟩ hK
    dsimp only [encK,tmV]
    have hb1:Below W.heap.size W (W.alloc (tmO (q x) (kidF t x))):=below_alloc (Below.refl _ _) _
    have HKK:=Ak (hK { tmps:=#[tmV p t,.int .i64 b,vrOw ,.pointer (some ⟨w.heap.size,0,none⟩),.pointer (some ⟨w.heap.size+1,0,none⟩),.pointer (some ⟨w.heap.size+1+1,0,none⟩),.pointer (some ⟨w.heap.size+1+1+1,0,none⟩),.pointer (some ⟨w1.heap.size,0,none⟩),.int .i64 (moreZ t x),.pointer (some ⟨W.heap.size,0,none⟩),tmV p t,.bool false,undef,undef,undef,undef,.pointer (some ⟨w.heap.size,0,none⟩),.int .i64 t.kind,.agg #[.int .i64 t.kind,.int .i64 0,.string ⟨#[]⟩,.int .i64 0,.int .i64 0,.slice none 0 0,.slice none 0 0,.slice none 0 0],tmV p t,.func (.func 117) #[] #[.pointer (some ⟨W1.heap.size,0,none⟩)],.int .i64 (moreZ t x),tmV (q x) (kidF t x),undef,undef,undef,undef,undef,undef,undef,undef,undef,undef,undef,undef,undef,undef],defers:=[] } _ (KeepsFrom.of_chg (Chg.of_below (S:=fun _=>False) hb1) (fun k h=>h.elim)) ⟨hb1.size,fun k hk _=>hb1.block k (by have:=hCW.size;omega)⟩ ⟨V,blk_alloc hVO _,hKT.later hb1,chg_trans hCW (Chg.of_below hb1)⟩
     ⟨W.heap.size,hCW.size,blk_new _ _,fun V' hV'=>by
      have e1:=(blk_alloc hVO (tmO (q x) (kidF t x))).symm.trans hV'
      obtain rfl:V=V':=by injection e1 with e1;injection e1 with e1;injection e1 with e1;simpa using e1
      obtain ⟨cells,qq,ho,_⟩:=hKT
      intro e
      have:=own_lt ho _ e
      omega,rfl⟩)
    clear hK hKT hCW hVO hb1
    gi_wp2
    exact HKK.out
   case body =>
    rintro l pre x a' W hl ⟨r,hr⟩ ⟨V,hVO,hKT,hCW⟩ ⟨Bx,hBx,bX,hVB,rfl⟩ hlt
    have hVB2:=hVB V hVO
    obtain ⟨cells,qq,hown,hkids⟩:=hKT
    obtain ⟨A9,c9,rfl⟩:=own_slice hown
    have hszW:=hCW.size
    have hn3:=nK_le3 t
    have HPL:=Ak (rebKids_len RF t b pre)
    have hmz:=moreZ_in t x
    have HDK:=Ak (depth_kid t x)
    have hbm:0≤b+moreZ t x∧b+moreZ t x≤2000000:=by omega
    have st:∀ j,j<w1.heap.size→W.heap[j]?=w1.heap[j]?:=fun j h1=>(hCW.block j (by omega) (by omega)).trans (HBB.out.block j h1)
    have hX1:=(st _ (by omega)).trans HX11.out
    have hX2:=(st _ (by omega)).trans HX21.out
    have HIH:=Ak (show ∀ w',W.heap.size≤w'.heap.size→(∀ k,k<g1→w'.heap[k]?=W.heap[k]?)→Calls Try.prog 60 #[tmV (q x) (kidF t x),.int .i64 (b+moreZ t x),vrOw ] w' (TmGot w' S (rebP RF (kidF t x) (b+moreZ t x))) from fun w' hz hs=>by
     have hs2:∀ k,k<g1→w'.heap[k]?=w.heap[k]?:=fun k hk=>(hs k hk).trans ((st k (by omega)).trans (HB1.out.block k (by omega)))
     have hs3:∀ k,k<g1→w'.heap[k]?=w2.heap[k]?:=fun k hk=>(hs2 k hk).trans ((HBB.out.block k (by omega)).trans (HB1.out.block k (by omega))).symm
     exact IH.out (kidF t x) (by have:=kidF_lt t x;have:=HNN.out;omega) (q x) (b+moreZ t x) w' (by omega) (by have:=HBD.out;have:=HDK.out;omega) (by omega) ((HQ.out x _ (kidF_get t x)).2.same fun k hk _=>hs3 k (Nat.lt_of_lt_of_le (HSS.out _ hk) h01)) (HRP.out _ _ HR.out hs2))
    have HKID:=Ak hkids
    have HOWN:=Ak hown
    have HBX:=Ak bX
    have HVO:=Ak hVO
    have HCW:=Ak hCW
    obtain ⟨L,hL⟩:∃ L,(rebKids RF t b pre).length=L:=⟨_,rfl⟩
    have hL3:L≤3:=by rw [← hL,HPL.out];omega
    have HLE:=Ak hL
    clear st hl hVB hkids hown bX hVO hCW
    rw [hL] at hVB2 HOWN HVO HKID
    clear hL
    refine wpIn_block ?_
    refine rb_region ?hq W S w1.heap.size Bx (w.heap.size+1) (w.heap.size+1+1) w2.heap.size g0 g1 L c9 A9 cells t.kind b (moreZ t x) (q x) (kidF t x) (rebP RF (kidF t x) (b+moreZ t x)) (vrOw ) HSS.out HVO.out HBX.out hX1 hX2 HOWN.out (by omega) (by omega) (by omega) hVB2 (by omega) (by omega) (by omega) (by omega) (by omega) (by omega) HIH.out ?_
    case hq =>
     rintro ⟨a1,wx,h⟩
     exact h
    intro w' u30 u32 u33 u34 O9 O11 v12 O12 v14 O14 hch _ _ h11 _ h12 hO12 h14 _ hap
    have hfin:=reb_round HLE.out HKID.out HOWN.out hch h12 hO12 (fun h=>hap _ h h14.2) (by omega) (by omega) (by omega) HSS.out
    have hsn:=rebKids_snoc RF t b pre x
    have hz':=hch.size
    have hC2:Chg (fun k=>k=w1.heap.size) w2 w':=⟨hch.os.trans HCW.out.os,hch.tape.trans HCW.out.tape,hch.output.trans HCW.out.output,Nat.le_trans HCW.out.size hch.size,fun k hk hn=>(hch.block k (by omega) (fun e=>e.elim (fun e=>by have:=own_base HOWN.out k e;omega) hn)).trans (HCW.out.block k hk hn)⟩
    exact ⟨⟨hch.size,fun k o hBk ho hc=>(hch.block k (blk_lt ho) (fun e=>e.elim (fun e=>own_cells HOWN.out e ho hc) (fun e=>by have e:k=w1.heap.size:=e;omega))).trans ho⟩,⟨hch.size,fun k hk hg=>hch.block k (by omega) (fun e=>e.elim (fun e=>by have:=own_base HOWN.out k e;omega) hg)⟩,u33,h14.1,by rw [hsn];exact hfin,hC2⟩
   case stop =>
    rintro D c pre WW hD hSp hf hKW
    exact hf.elim
   case done =>
    rintro D ys W hD rfl ⟨V,hVO,hKT,hCW⟩ hK
    obtain ⟨K9,e9,rfl,hterm⟩:=hKT.term
    have HTM:=Ak (hterm t.kind 0 noName ⟨by decide,by decide,by simp⟩)
    have hszW:=hCW.size
    have hres:=(hCW.block (w.heap.size+1+1+1) (by omega) (by omega)).trans ((HBB.out.block _ (by omega)).trans HX31.out)
    have HRES:=Ak hres
    have HKD:=Ak hK
    have HCW:=Ak hCW
    obtain ⟨o0,o1,o2,o3,o4,o5,o6,o7,-,-,-,-,-,-,-,-⟩:=row8c hVO
    obtain ⟨r0,r1,r2,r3,r4,r5,r6,r7,f0,f1,f2,f3,f4,f5,f6,f7⟩:=row8c hres
    have hz5:w1.heap.size<W.heap.size:=by omega
    have hne5:w1.heap.size≠w.heap.size+1+1+1:=by omega
    obtain ⟨m9,hm9⟩:∃ m,(rebKids RF t b (List.finRange (nK t))).length=m:=⟨_,rfl⟩
    have HM9:=Ak hm9
    rw [hm9] at o7
    clear hVO hKT hCW hK hterm hres hm9
    gi_wp2
    have hch:=chg_set8 W (w.heap.size+1+1+1) (.int .i64 t.kind) (.int .i64 0) (.string ⟨#[]⟩) (.int .i64 0) (.int .i64 0) (.slice none 0 0) (.slice none 0 0) (.slice K9 m9 e9)
    have hx5:=set8 (a0:=.int .i64 t.kind) (a1:=.int .i64 0) (a2:=.string ⟨#[]⟩) (a3:=.int .i64 0) (a4:=.int .i64 0) (a5:=.slice none 0 0) (a6:=.slice none 0 0) (a7:=.slice K9 m9 e9) HRES.out
    obtain ⟨WW,hWW⟩:∃ WW,WW=((((((((W.setCell ⟨w.heap.size+1+1+1,0,none⟩ (.int .i64 t.kind)).setCell ⟨w.heap.size+1+1+1,1,none⟩ (.int .i64 0)).setCell ⟨w.heap.size+1+1+1,2,none⟩ (.string ⟨#[]⟩)).setCell ⟨w.heap.size+1+1+1,3,none⟩ (.int .i64 0)).setCell ⟨w.heap.size+1+1+1,4,none⟩ (.int .i64 0)).setCell ⟨w.heap.size+1+1+1,5,none⟩ (.slice none 0 0)).setCell ⟨w.heap.size+1+1+1,6,none⟩ (.slice none 0 0)).setCell ⟨w.heap.size+1+1+1,7,none⟩ (.slice K9 m9 e9)):=⟨_,rfl⟩
    rw [← hWW] at hch hx5 ⊢
    clear hWW
    have hszV:=hch.size
    have hKW:WW.heap[D]?=some (.deferred (some [])):=(hch.block D (blk_lt HKD.out) (by omega)).trans HKD.out
    have hp:=chg_put WW D (.deferred none)
    have hx6:(WW.putObj D (.deferred none)).heap[w.heap.size+1+1+1]?=some (.cells #[.int .i64 t.kind,.int .i64 0,.string ⟨#[]⟩,.int .i64 0,.int .i64 0,.slice none 0 0,.slice none 0 0,.slice K9 m9 e9] 28 (0,0)):=(hp.block _ (blk_lt hx5) (by omega)).trans hx5
    refine ⟨by simp,.inl ⟨_,_,rfl,run_takeDeferred hKW,?_⟩⟩
    refine ⟨_,results_c rfl _ _ (w.heap.size+1+1+1) 28 #[.int .i64 t.kind,.int .i64 0,.string ⟨#[]⟩,.int .i64 0,.int .i64 0,.slice none 0 0,.slice none 0 0,.slice K9 m9 e9] (0,0) _ rfl hx6 Try.underlying28 rfl (by kernel_rfl),?_⟩
    rw [HE.out]
    have hnD:∀ k,CellsB W k→k≠D:=by
     rintro k ⟨cs,tt,fr,hk⟩ e
     rw [e,HKD.out] at hk
     cases hk
    refine ⟨⟨none,0,none,0,K9,e9⟩,by unfold tmV;rw [← HM9.out];rfl,((HTM.out.cells).same fun k hk hz=>(hp.block k (by omega) (hnD k hk.2)).trans (hch.block k hz (by rcases hk.1 with h | h;have:=HSS.out _ h;omega;omega))).mono fun k hk _=>hk.1.imp id fun h=>by omega,?_⟩
    refine Chg.trans_below (S:=fun k=>k=w1.heap.size∨k=w.heap.size+1+1+1∨k=D) (Below.trans HB1.out (HBB.out.mono HB1.out.size)) ?_ (fun k h=>by omega) (by have:=HB1.out.size;omega)
    exact chg_trans (HCW.out.mono fun k h=>.inl h) (chg_trans (hch.mono fun k h=>.inr (.inl h)) (hp.mono fun k h=>.inr (.inr h)))
end Go.Proofs.Ytdboloabpjmgaaa

namespace Go.Proofs.Ytdboloabpjmgaaa
open Go.RowKit Go.Proofs.YtdboloabpjmgaaaW.PrintWords Go.RegionInvYtdboloabpjmgaaa

theorem depth_pos (t:Tm):1≤depthT t:=by rw [depthT];omega
def maxK (t:Tm) (xs:List (Fin (nK t))):Nat:=(xs.map fun i=>depthT (kidF t i)).foldr max 0
def sumK (t:Tm) (xs:List (Fin (nK t))):Nat:=(xs.map fun i=>sizeT (kidF t i)).sum
theorem depth_eq (t:Tm):depthT t=1+maxK t (List.finRange (nK t)):=by rw [depthT];rfl
theorem size_eq (t:Tm):sizeT t=1+sumK t (List.finRange (nK t)):=by rw [sizeT];rfl
theorem me_true (N:Nat):∀ (t:Tm),SizeOf.sizeOf t<N→∀ (d b n m:Int),(foldP meF t d b (n,m)).1=true →
  d+depthT t≤2001∧n+sizeT t≤20000∧(foldP meF t d b (n,m)).2=(n+sizeT t,max m (d+depthT t - 1)):=by
 induction N with
 | zero=>intro t h;omega
 | succ N ih =>
  intro t hN d b n m h
  by_cases h1:(meF t d b (n,m)).1=true
  ·rw [foldP_go h1] at h ⊢
   have h1':=of_decide_eq_true h1
   simp only at h1'
   have key:∀ (xs:List (Fin (nK t))) (n m:Int),(runL (fun (i:Fin (nK t)) s=>foldP meF (kidF t i) (d+1) (b+moreZ t i) s) xs (n,m)).1=true →
     (∀ x∈xs,d+1+depthT (kidF t x)≤2001)∧(n≤20000→n+sumK t xs≤20000)∧(d≤m→(runL (fun (i:Fin (nK t)) s=>foldP meF (kidF t i) (d+1) (b+moreZ t i) s) xs (n,m)).2=(n+sumK t xs,max m (d+maxK t xs))):=by
    intro xs
    induction xs with
    | nil =>
     intro n m _
     refine ⟨(fun x hx=>by cases hx),(fun h=>by simp [sumK];omega),fun hd=>?_⟩
     simp only [runL,sumK,maxK,List.map_nil,List.sum_nil,List.foldr_nil,Prod.mk.injEq]
     omega
    | cons x r ihr =>
     intro n m hm
     rw [runL] at hm ⊢
     by_cases hc:(foldP meF (kidF t x) (d+1) (b+moreZ t x) (n,m)).1=true
     ·rw [if_pos hc] at hm ⊢
      have h4:=ih (kidF t x) (by have:=kidF_lt t x;omega) (d+1) (b+moreZ t x) n m hc
      rw [h4.2.2] at hm ⊢
      have h5:=ihr _ _ hm
      have e1:sumK t (x :: r)=sizeT (kidF t x)+sumK t r:=by unfold sumK;rw [List.map_cons,List.sum_cons]
      have e2:maxK t (x :: r)=max (depthT (kidF t x)) (maxK t r):=rfl
      refine ⟨fun y hy=>?_,fun hn=>?_,fun hd=>?_⟩
      ·rcases List.mem_cons.1 hy with rfl | hy
       ·exact h4.1
       ·exact h5.1 y hy
      ·have:=h5.2.1 h4.2.1;rw [e1];push_cast;omega
      ·rw [h5.2.2 (by omega),e1,e2]
       simp only [Prod.mk.injEq]
       push_cast
       have:=depth_pos (kidF t x)
       omega
     ·rw [if_neg hc] at hm;cases hm
   have h2:=key _ _ _ h
   have h3:d+depthT t≤2001:=by
    rw [depth_eq]
    have:maxK t (List.finRange (nK t))≤(2000 - d).toNat:=by
     refine max_le_of fun x hx=>?_
     obtain ⟨i,hi,rfl⟩:=List.mem_map.1 hx
     have:=h2.1 i hi
     omega
    omega
   have h4:=h2.2.1 h1'.1
   have h5:=h2.2.2 (by show d≤max m d;omega)
   rw [size_eq]
   refine ⟨h3,by push_cast;omega,?_⟩
   show (runL _ _ (n+1,max m d)).2=_
   rw [h5,depth_eq]
   simp only [Prod.mk.injEq]
   push_cast
   omega
  ·have h2:(meF t d b (n,m)).1=false:=by simpa using h1
   rw [foldP_stop h2,h2] at h;cases h
theorem me_ok (N:Nat):∀ (t:Tm),SizeOf.sizeOf t<N→∀ (d b n m:Int),d+depthT t≤2001→n+sizeT t≤20000→(foldP meF t d b (n,m)).1=true:=by
 induction N with
 | zero=>intro t h;omega
 | succ N ih =>
  intro t hN d b n m hd hn
  have hp:=size_pos t
  have hq:=depth_pos t
  have h1:(meF t d b (n,m)).1=true:=decide_eq_true ⟨by simp only;omega,by omega⟩
  rw [foldP_go h1]
  have key:∀ (xs:List (Fin (nK t))) (n m:Int),n+sumK t xs≤20000→(runL (fun (i:Fin (nK t)) s=>foldP meF (kidF t i) (d+1) (b+moreZ t i) s) xs (n,m)).1=true:=by
   intro xs
   induction xs with
   | nil=>intro n m _;rfl
   | cons x r ihr =>
    intro n m hm
    have e1:sumK t (x :: r)=sizeT (kidF t x)+sumK t r:=by unfold sumK;rw [List.map_cons,List.sum_cons]
    rw [e1] at hm
    push_cast at hm
    have h4:=ih (kidF t x) (by have:=kidF_lt t x;omega) (d+1) (b+moreZ t x) n m (by have:=depth_kid t x;omega) (by omega)
    have h5:=me_true _ (kidF t x) (Nat.lt_succ_self _) (d+1) (b+moreZ t x) n m h4
    rw [runL,if_pos h4,h5.2.2]
    exact ihr _ _ (by omega)
  refine key _ _ _ ?_
  rw [size_eq] at hn
  push_cast at hn
  show n+1+_≤_
  omega
theorem meas_yes {t:Tm} (h:okT t):measP t=((sizeT t:Int),(depthT t:Int)):=by
 have h1:=me_ok _ t (Nat.lt_succ_self _) 1 0 0 0 (by have:=h.2;omega) (by have:=h.1;omega)
 unfold measP
 rw [if_pos h1,(me_true _ t (Nat.lt_succ_self _) 1 0 0 0 h1).2.2]
 have:=depth_pos t
 simp only [Prod.mk.injEq]
 omega
theorem meas_no {t:Tm} (h:¬ okT t):measP t=(0,0):=by
 unfold measP
 refine if_neg fun h1=>h ?_
 have h2:=me_true _ t (Nat.lt_succ_self _) 1 0 0 0 h1
 exact ⟨by have:=h2.2.1;omega,by have:=h2.1;omega⟩
end Go.Proofs.Ytdboloabpjmgaaa

namespace Go.Proofs.Ytdboloabpjmgaaa
open Go.RowKit Go.Proofs.YtdboloabpjmgaaaW.PrintWords Go.RegionInvYtdboloabpjmgaaa Go.RegionEYtdboloabpjmgaaa

theorem tm_ret {w w3 W8:World} {g0 g m:Nat} {y:Tm} {q:Pl} (ht:TmS w3 (fun k=>k<g0∨m≤k) q y) (hch:Chg (fun k=>k=g) w3 W8) (hg0:g0≤w.heap.size) (hg:w.heap.size≤g) (hm:g<m) (hb:Below w.heap.size w w3):TmGot w (fun k=>k<g0) y (.returned (tmV q y)) W8:=
 ⟨q,rfl,(ht.same fun k hk hz=>hch.block k hz (by rcases hk with hk | hk <;> omega)).mono fun k hk _=>hk.imp id fun h=>by omega,Chg.trans_below hb hch (fun _ e=>by omega) hb.size⟩
theorem tm_retS {w w3 W8:World} {S:Nat→Prop} {g0 g m:Nat} {y:Tm} {q:Pl} (ht:TmS w3 (fun k=>S k∨m≤k) q y) (hch:Chg (fun k=>k=g) w3 W8) (hg0:g0≤w.heap.size) (hg:w.heap.size≤g) (hm:g<m) (hb:Below w.heap.size w w3) (hS:∀ k,S k→k<g0):TmGot w S y (.returned (tmV q y)) W8:=
 ⟨q,rfl,(ht.same fun k hk hz=>hch.block k hz (by rcases hk with hk | hk;have:=hS _ hk;omega;omega)).mono fun k hk _=>hk.imp id fun h=>by omega,Chg.trans_below hb hch (fun _ e=>by omega) hb.size⟩
theorem great_eq (t:Tm):greatB t = !decide (okT t):=by
 unfold greatB
 by_cases h:okT t
 ·rw [meas_yes h]
  have:=size_pos t
  simp [h]
  omega
 ·rw [meas_no h]
  simp [h]
set_option maxRecDepth 100000 in
set_option maxHeartbeats 4000000 in
theorem own1S_calls (S:Nat→Prop) (g0:Nat) (t:Tm) (p:Pl) (b:Int) (w:World) (hg0:g0≤w.heap.size) (hS:∀ k,S k→k<g0) (hin:TmS w S p t) :
  Calls Try.prog 94 #[tmV p t,.int .i64 b] w (TmGot w S (nodeP t)):=by
 obtain ⟨W,hW⟩:∃ W,W=(w.alloc (tmO p t)).alloc (outK 0 (.slice none 0 0)):=⟨_,rfl⟩
 have hb:Below w.heap.size w W:=by rw [hW];exact below_alloc (below_alloc (Below.refl _ _) _) _
 have HX:=Ak (show W.heap[w.heap.size]?=some (tmO p t) by rw [hW];exact box0 w _ _)
 have HX1:=Ak (show W.heap[w.heap.size+1]?=some (outK 0 (.slice none 0 0)) by rw [hW];exact box1 w _ _)
 have HZ:=Ak (show W.heap.size=w.heap.size+1+1 by rw [hW];simp)
 have HB:=Ak hb
 have HIN:=Ak (TmS.stay hin hS (hb.mono hg0))
 have HSS:=Ak hS
 obtain ⟨y,hy⟩:∃ y,y=nodeP t:=⟨_,rfl⟩
 have HY:=Ak hy
 rw [← hy]
 clear hin hb hy hS
 unfold tmV
 unfold tmO at hW
 go_enter Try.func94,Try.ntmps94
 go_upto_region 1 with (fail)
 rw [← hW]
 clear hW
 go_wp2_with (first
  | (refine wpList_load_row rfl 28 _ rfl (w.heap.size) rfl 28 _ (0,0) _ HX.out Try.underlying28 rfl (by kernel_rfl) ?_)
  | (go_at_call 63;go_must (refine (node_calls S t p W HIN.out).mono ?_;rw [← HY.out];rintro e w3 ⟨q9,rfl,ht9,hb3⟩;have HT9:=Ak ht9;have hX13:=(hb3.block _ (blk_lt HX1.out)).trans HX1.out;have HX13:=Ak hX13;have HB3:=Ak (below_then HB.out HB.out.size hb3);obtain ⟨r0,r1,r2,r3,r4,r5,r6,r7,f0,f1,f2,f3,f4,f5,f6,f7⟩:=row8c hX13;clear ht9 hb3 hX13;unfold tmV)))
 refine bodyPost_ret (results_c rfl _ _ (w.heap.size+1) 28 #[.int .i64 y.kind,.int .i64 y.num,.string y.name,.int .i64 y.lv.kind,.int .i64 y.lv.num,.slice q9.A y.lv.kids.length q9.c,.slice q9.B y.ls.length q9.d,.slice q9.K y.kids.length q9.e] (0,0) _ rfl (set8 HX13.out) Try.underlying28 rfl (by kernel_rfl)) rfl ?_
 exact tm_retS (g:=w.heap.size+1) HT9.out (chg_set8 w3 (w.heap.size+1) (.int .i64 y.kind) (.int .i64 y.num) (.string y.name) (.int .i64 y.lv.kind) (.int .i64 y.lv.num) (.slice q9.A y.lv.kids.length q9.c) (.slice q9.B y.ls.length q9.d) (.slice q9.K y.kids.length q9.e)) hg0 (by omega) (by have:=HZ.out;omega) HB3.out HSS.out

def ownT (t:Tm):Tm:=if okT t then rebP (fun t _=>nodeP t) t 0 else t
theorem ownT_ok {t:Tm} (h:okT t):ownT t=rebP (fun t _=>nodeP t) t 0:=if_pos h
theorem ownT_no {t:Tm} (h:¬ okT t):ownT t=t:=if_neg h
theorem reb_own (S:Nat→Prop) (g0:Nat) (t:Tm) (p:Pl) (w:World) (hok:okT t) (hg0:g0≤w.heap.size) (hS:∀ k,S k→k<g0) (hin:TmS w S p t) :
  Calls Try.prog 60 #[tmV p t,.int .i64 0,.func (.func 94) #[] #[]] w (TmGot w S (ownT t)):=by
 rw [ownT_ok hok]
 exact reb_Ow (fun t _=>nodeP t) (fun _=>True) S g0 g0 (Nat.le_refl _) hS (fun _ _ _ _=>trivial) (fun t p b w _ _ _ hg hin _=>own1S_calls S g0 t p b w hg hS hin) _ t (Nat.lt_succ_self _) p 0 w (by omega) (by have:=hok.2;omega) hg0 hin trivial
set_option maxRecDepth 100000 in
set_option maxHeartbeats 4000000 in
theorem townS_calls (S:Nat→Prop) (g0:Nat) (t:Tm) (p:Pl) (w:World) (hg0:g0≤w.heap.size) (hS:∀ k,S k→k<g0) (hin:TmS w S p t) :
  Calls Try.prog 56 #[tmV p t] w (TmGot w S (ownT t)):=by
 obtain ⟨W,hW⟩:∃ W,W=(w.alloc (tmO p t)).alloc (outK 0 (.slice none 0 0)):=⟨_,rfl⟩
 have hb:Below w.heap.size w W:=by rw [hW];exact below_alloc (below_alloc (Below.refl _ _) _) _
 have HX:=Ak (show W.heap[w.heap.size]?=some (tmO p t) by rw [hW];exact box0 w _ _)
 have HX1:=Ak (show W.heap[w.heap.size+1]?=some (outK 0 (.slice none 0 0)) by rw [hW];exact box1 w _ _)
 have HZ:=Ak (show W.heap.size=w.heap.size+1+1 by rw [hW];simp)
 have HB:=Ak hb
 have HIN:=Ak (TmS.stay hin hS (hb.mono hg0))
 have HSS:=Ak hS
 have HGE:=Ak (great_eq t)
 obtain ⟨y,hy⟩:∃ y,y=ownT t:=⟨_,rfl⟩
 have HY:=Ak hy
 rw [← hy]
 clear hin hb hy hS
 unfold tmV
 unfold tmO at hW
 go_enter Try.func56,Try.ntmps56
 go_upto_region 1 with (fail)
 rw [← hW]
 clear hW
 by_cases hk:okT t
 ·have HK:=Ak hk
  have HG:=Ak (show greatB t=false by rw [HGE.out];simp [hk])
  clear hk
  go_wp2_with (first
   | (refine wpList_load_row rfl 28 _ rfl (w.heap.size) rfl 28 _ (0,0) _ HX.out Try.underlying28 rfl (by kernel_rfl) ?_)
   | (refine wpList_load_row rfl 28 _ rfl (w.heap.size) rfl 28 _ (0,0) _ HX01.out Try.underlying28 rfl (by kernel_rfl) ?_)
   | (go_at_call 55;go_must (refine (great_calls t p W (TmS.all HIN.out)).mono ?_;rintro e w1 ⟨rfl,hb⟩;rw [HG.out];have HX01:=Ak ((hb.block _ (blk_lt HX.out)).trans HX.out);have HX11:=Ak ((hb.block _ (blk_lt HX1.out)).trans HX1.out);have HB1:=Ak (below_then HB.out HB.out.size hb);have HZ1:=Ak (show w.heap.size+1+1≤w1.heap.size by have:=hb.size;have:=HZ.out;omega);have HIN1:=Ak (TmS.stay HIN.out HSS.out (hb.mono (Nat.le_trans hg0 HB.out.size)));clear hb))
   | (go_at_call 60;go_must (refine (reb_own S g0 t p w1 HK.out (Nat.le_trans hg0 HB1.out.size) HSS.out HIN1.out).mono ?_;rw [← HY.out];rintro e w3 ⟨q9,rfl,ht9,hb3⟩;have HT9:=Ak ht9;have hX13:=(hb3.block _ (blk_lt HX11.out)).trans HX11.out;have HX13:=Ak hX13;have HB3:=Ak (below_then HB1.out HB1.out.size hb3);obtain ⟨r0,r1,r2,r3,r4,r5,r6,r7,f0,f1,f2,f3,f4,f5,f6,f7⟩:=row8c hX13;clear ht9 hb3 hX13;unfold tmV)))
  refine bodyPost_ret (results_c rfl _ _ (w.heap.size+1) 28 #[.int .i64 y.kind,.int .i64 y.num,.string y.name,.int .i64 y.lv.kind,.int .i64 y.lv.num,.slice q9.A y.lv.kids.length q9.c,.slice q9.B y.ls.length q9.d,.slice q9.K y.kids.length q9.e] (0,0) _ rfl (set8 HX13.out) Try.underlying28 rfl (by kernel_rfl)) rfl ?_
  exact tm_retS (g:=w.heap.size+1) HT9.out (chg_set8 w3 (w.heap.size+1) (.int .i64 y.kind) (.int .i64 y.num) (.string y.name) (.int .i64 y.lv.kind) (.int .i64 y.lv.num) (.slice q9.A y.lv.kids.length q9.c) (.slice q9.B y.ls.length q9.d) (.slice q9.K y.kids.length q9.e)) hg0 (by omega) HZ1.out HB3.out HSS.out
 ·have HG:=Ak (show greatB t=true by rw [HGE.out];simp [hk])
  obtain rfl:t=y:=(HY.out.trans (ownT_no hk)).symm
  clear hk
  go_upto_region 2 with (first
   | (refine wpList_load_row rfl 28 _ rfl (w.heap.size) rfl 28 _ (0,0) _ HX.out Try.underlying28 rfl (by kernel_rfl) ?_)
   | (go_at_call 55;go_must (refine (great_calls t p W (TmS.all HIN.out)).mono ?_;rintro e w1 ⟨rfl,hb⟩;rw [HG.out];have HX01:=Ak ((hb.block _ (blk_lt HX.out)).trans HX.out);have HX11:=Ak ((hb.block _ (blk_lt HX1.out)).trans HX1.out);have HB1:=Ak (below_then HB.out HB.out.size hb);have HIN1:=Ak (TmS.stay HIN.out HSS.out (hb.mono (Nat.le_trans hg0 HB.out.size)));clear hb)))
  obtain ⟨r0,r1,r2,r3,r4,r5,r6,r7,f0,f1,f2,f3,f4,f5,f6,f7⟩:=row8c HX11.out
  obtain ⟨c0,c1,c2,c3,c4,c5,c6,c7⟩:=row8 HX01.out
  go_wp2
  refine bodyPost_ret (results_c rfl _ _ (w.heap.size+1) 28 #[.int .i64 t.kind,.int .i64 t.num,.string t.name,.int .i64 t.lv.kind,.int .i64 t.lv.num,.slice p.A t.lv.kids.length p.c,.slice p.B t.ls.length p.d,.slice p.K t.kids.length p.e] (0,0) _ rfl (set8 HX11.out) Try.underlying28 rfl (by kernel_rfl)) rfl ?_
  exact tm_retS (g:=w.heap.size+1) (m:=w.heap.size+1+1) (TmS.mono HIN1.out fun k h _=>.inl h) (chg_set8 w1 (w.heap.size+1) (.int .i64 t.kind) (.int .i64 t.num) (.string t.name) (.int .i64 t.lv.kind) (.int .i64 t.lv.num) (.slice p.A t.lv.kids.length p.c) (.slice p.B t.ls.length p.d) (.slice p.K t.kids.length p.e)) hg0 (by omega) (by omega) HB1.out HSS.out

theorem town_calls (g0:Nat) (t:Tm) (p:Pl) (w:World) (hg0:g0≤w.heap.size) (hin:TmIn w g0 p t) :
  Calls Try.prog 56 #[tmV p t] w (TmGot w (fun k=>k<g0) (ownT t)):=townS_calls _ g0 t p w hg0 (fun _ h=>h) hin
abbrev lv0:Lv:=.mk 0 0 []
theorem TmS.flat {w:World} {S:Nat→Prop} {A B:Option Addr} {c d:Nat} {l:Lv} {ls:List Lv} (h:LvS w S A c l) (h2:LvS w S B d (.mk 0 0 ls)) (k n:Int) (nm:ByteArray) (hf:Fit n nm ls):TmS w S ⟨A,c,B,d,none,0⟩ (.mk k n nm l ls []):=
 .mk (fun _=>default) h h2 (by simp) (by simp) hf (fun i x h=>by simp at h) (fun i x h=>by simp at h)
def varT (n:Int):Tm:=.mk 1 n noName lv0 [] []
set_option maxHeartbeats 4000000 in
theorem tvar_calls (g0:Nat) (n:Int) (w:World) (hn:-9223372036854775808≤n∧n≤9223372036854775807):Calls Try.prog 14 #[.int .i64 n] w (TmGot w (fun k=>k<g0) (varT n)):=by
 go_enter Try.func14,Try.ntmps14
 go_wp2
 refine bodyPost_ret (results_c rfl _ _ w.heap.size 28 #[.int .i64 1,.int .i64 n,.string ⟨#[]⟩,.int .i64 0,.int .i64 0,.slice none 0 0,.slice none 0 0,.slice none 0 0] (0,0) _ rfl (blk_new w _) Try.underlying28 rfl (by kernel_rfl)) rfl ?_
 exact ⟨⟨none,0,none,0,none,0⟩,rfl,TmS.flat (LvS.leaf _ _ _ _) (LvS.leaf _ _ _ _) _ _ _ ⟨hn,by decide,by simp⟩,below_alloc (Below.refl _ _) _⟩
def consT (nm:ByteArray) (ls:List Lv):Tm:=nodeP (.mk 7 0 nm lv0 ls [])
set_option maxRecDepth 100000 in
set_option maxHeartbeats 4000000 in
theorem tconst_calls (g0:Nat) (nm:ByteArray) (B:Option Addr) (d n:Nat) (ls:List Lv) (w:World) (hg0:g0≤w.heap.size) (hn:n=ls.length) (hnm:nm.size≤140737488355328) (hl40:ls.length * 40≤140737488355328) (hin:LvS w (fun k=>k<g0) B d (.mk 0 0 ls)) :
  Calls Try.prog 28 #[.string nm,.slice B n d] w (TmGot w (fun k=>k<g0) (consT nm ls)):=by
 obtain ⟨W,hW⟩:∃ W,W=w.alloc (outK 0 (.slice none 0 0)):=⟨_,rfl⟩
 have hb:Below w.heap.size w W:=by rw [hW];exact below_alloc (Below.refl _ _) _
 have HX1:=Ak (show W.heap[w.heap.size]?=some (outK 0 (.slice none 0 0)) by rw [hW];exact blk_new w _)
 have HZ:=Ak (show W.heap.size=w.heap.size+1 by rw [hW];simp)
 have HB:=Ak hb
 have HIN:=Ak (show TmS W (fun k=>k<g0) ⟨none,0,B,d,none,0⟩ (.mk 7 0 nm lv0 ls []) from TmS.flat (LvS.leaf _ _ _ _) (LvS.same (w':=W) hin fun k hk _=>hb.block k (by omega)) _ _ _ ⟨by decide,hnm,hl40⟩)
 have HCA:=Ak (show ∀ W,TmS W (fun k=>k<g0) ⟨none,0,B,d,none,0⟩ (.mk 7 0 nm lv0 ls [])→Calls Try.prog 63 #[.agg #[.int .i64 7,.int .i64 0,.string nm,.int .i64 0,.int .i64 0,.slice none 0 0,.slice B n d,.slice none 0 0]] W (TmGot W (fun k=>k<g0) (consT nm ls)) from fun W h=>by subst hn;exact node_calls (fun k=>k<g0) (.mk 7 0 nm lv0 ls []) ⟨none,0,B,d,none,0⟩ W h)
 obtain ⟨y,hy⟩:∃ y,y=consT nm ls:=⟨_,rfl⟩
 have HY:=Ak hy
 rw [← hy]
 clear hin hb hy hn
 go_enter Try.func28,Try.ntmps28
 go_upto_region 1 with (fail)
 rw [← hW]
 clear hW
 go_wp2_with (go_at_call 63;go_must (refine (HCA.out W HIN.out).mono ?_;rw [← HY.out];rintro e w3 ⟨q9,rfl,ht9,hb3⟩;have HT9:=Ak ht9;have hX13:=(hb3.block _ (blk_lt HX1.out)).trans HX1.out;have HX13:=Ak hX13;have HB3:=Ak (below_then HB.out HB.out.size hb3);obtain ⟨r0,r1,r2,r3,r4,r5,r6,r7,f0,f1,f2,f3,f4,f5,f6,f7⟩:=row8c hX13;clear ht9 hb3 hX13;unfold tmV))
 refine bodyPost_ret (results_c rfl _ _ (w.heap.size) 28 #[.int .i64 y.kind,.int .i64 y.num,.string y.name,.int .i64 y.lv.kind,.int .i64 y.lv.num,.slice q9.A y.lv.kids.length q9.c,.slice q9.B y.ls.length q9.d,.slice q9.K y.kids.length q9.e] (0,0) _ rfl (set8 HX13.out) Try.underlying28 rfl (by kernel_rfl)) rfl ?_
 exact tm_ret (g:=w.heap.size) HT9.out (chg_set8 w3 (w.heap.size) (.int .i64 y.kind) (.int .i64 y.num) (.string y.name) (.int .i64 y.lv.kind) (.int .i64 y.lv.num) (.slice q9.A y.lv.kids.length q9.c) (.slice q9.B y.ls.length q9.d) (.slice q9.K y.kids.length q9.e)) hg0 (by omega) (by have:=HZ.out;omega) HB3.out

end Go.Proofs.Ytdboloabpjmgaaa

namespace Go.Proofs.Ytdboloabpjmgaaa
open Go.RowKit Go.Proofs.YtdboloabpjmgaaaW.PrintWords Go.RegionInvYtdboloabpjmgaaa Go.RegionEYtdboloabpjmgaaa

theorem TmS.renum {w:World} {S:Nat→Prop} {p:Pl} {k n m:Int} {nm:ByteArray} {l:Lv} {ls:List Lv} {ks:List Tm} (h:TmS w S p (.mk k n nm l ls ks)) (hm:-9223372036854775808≤m∧m≤9223372036854775807):TmS w S p (.mk k m nm l ls ks):=by
 cases h with
 | mk q h1 h2 h3 h4 h5 h6 h7=>exact .mk q h1 h2 h3 h4 ⟨hm,h5.2⟩ h6 h7
def liftN (fr by_ n b:Int):Int:=if n<b∨n - b<fr then n else if 0<by_ then min n (9223372036854775807 - by_)+by_ else max b (n+by_)
def liftF (fr by_:Int) (t:Tm) (b:Int):Tm:=if t.kind=1 then varT (liftN fr by_ t.num b) else nodeP t
theorem liftF_no {fr by_ b:Int} {t:Tm} (h:¬ t.kind=1):liftF fr by_ t b=nodeP t:=if_neg h
theorem liftF_var {fr by_ b:Int} {t:Tm} (h:t.kind=1):liftF fr by_ t b=varT (liftN fr by_ t.num b):=if_pos h
theorem nodeP_var {t:Tm} (h:t.kind=1):nodeP t=varT t.num:=by unfold nodeP varT;rw [h];rfl
theorem liftN_lo {fr by_ n b:Int} (h:n<b∨n - b<fr):liftN fr by_ n b=n:=if_pos h
theorem liftN_up {fr by_ n b:Int} (h:¬ (n<b∨n - b<fr)) (h2:0<by_):liftN fr by_ n b=min n (9223372036854775807 - by_)+by_:=by unfold liftN;rw [if_neg h,if_pos h2]
theorem liftN_dn {fr by_ n b:Int} (h:¬ (n<b∨n - b<fr)) (h2:¬ 0<by_):liftN fr by_ n b=max b (n+by_):=by unfold liftN;rw [if_neg h,if_neg h2]
structure RepLi (gf gb:Nat) (fr by_:Int) (w:World):Prop where
 fr:w.heap[gf]?=some (.cells #[.int .i64 fr] 3 (0,0))
 by_:w.heap[gb]?=some (.cells #[.int .i64 by_] 3 (0,0))

set_option maxRecDepth 100000 in
set_option maxHeartbeats 1000000 in
theorem lift1_calls (g0 g1 gf gb:Nat) (fr by_:Int) (t:Tm) (p:Pl) (b:Int) (w:World) (h01:g0≤g1) (hgf:gf<g1) (hgb:gb<g1) (hg1:g1≤w.heap.size) (hb0:0≤b) (hb1:b≤1000000) (hf0:0≤fr) (hby:-1048576≤by_∧by_≤1048576) (hin:TmIn w g0 p t) (hR:RepLi gf gb fr by_ w) :
  Calls Try.prog 97 #[tmV p t,.int .i64 b,.pointer (some ⟨gf,0,none⟩),.pointer (some ⟨gb,0,none⟩)] w (TmGot w (fun k=>k<g0) (liftF fr by_ t b)):=by
 have hg0:g0≤w.heap.size:=Nat.le_trans h01 hg1
 have hnr:=hin.fit.1
 obtain ⟨hn0,hn1⟩:=hnr
 obtain ⟨hby0,hby1⟩:=hby
 have HR:=Ak hR
 obtain ⟨W,hW⟩:∃ W,W=(w.alloc (tmO p t)).alloc (outK 0 (.slice none 0 0)):=⟨_,rfl⟩
 have hb:Below w.heap.size w W:=by rw [hW];exact below_alloc (below_alloc (Below.refl _ _) _) _
 have HX:=Ak (show W.heap[w.heap.size]?=some (tmO p t) by rw [hW];exact box0 w _ _)
 have HX1:=Ak (show W.heap[w.heap.size+1]?=some (outK 0 (.slice none 0 0)) by rw [hW];exact box1 w _ _)
 have HZ:=Ak (show W.heap.size=w.heap.size+1+1 by rw [hW];simp)
 have HB:=Ak hb
 have HIN:=Ak (TmIn.stay hin (hb.mono hg0))
 obtain ⟨y,hy⟩:∃ y,y=nodeP t:=⟨_,rfl⟩
 have HY:=Ak hy
 obtain ⟨z,hz⟩:∃ z,z=liftF fr by_ t b:=⟨_,rfl⟩
 have HZZ:=Ak hz
 rw [← hz]
 clear hin hb hy hz hR
 unfold tmV
 unfold tmO at hW
 go_enter Try.func97,Try.ntmps97
 go_upto_region 1 with (fail)
 rw [← hW]
 clear hW
 obtain ⟨tk,htk⟩:∃ x,t.kind=x:=⟨_,rfl⟩
 obtain ⟨tn,htn⟩:∃ x,t.num=x:=⟨_,rfl⟩
 by_cases k1:t.kind=1
 ·have HYV:=Ak (show y=varT t.num by rw [HY.out];exact nodeP_var k1)
  have HZV:=Ak (show z=varT (liftN fr by_ t.num b) by rw [HZZ.out];exact liftF_var k1)
  have e1:(t.kind != 1)=false:=by simp [k1]
  clear htk htn k1
  go_upto_block 0 with (first
   | (refine wpList_load_row rfl 28 _ rfl (w.heap.size) rfl 28 _ (0,0) _ HX.out Try.underlying28 rfl (by kernel_rfl) ?_)
   | (go_at_call 63;go_must (refine (node_calls (fun k=>k<g0) t p W HIN.out).mono ?_;rw [← HY.out];rintro e w3 ⟨q9,rfl,ht9,hb3⟩;have HT9:=Ak ht9;have HT9Z:=Ak (TmS.mono (S':=fun k=>(k<g0∨W.heap.size≤k)∧k<w3.heap.size) ht9 fun k h hz=>⟨h,hz⟩);have HX3:=Ak ((hb3.block _ (blk_lt HX.out)).trans HX.out);have HX13:=Ak ((hb3.block _ (blk_lt HX1.out)).trans HX1.out);have HB3:=Ak (below_then HB.out HB.out.size hb3);have HZ3:=Ak (show w.heap.size+1+1≤w3.heap.size by have:=hb3.size;have:=HZ.out;omega);clear ht9 hb3;unfold tmV)))
  obtain ⟨W4,hW4⟩:∃ W4,W4=w3.alloc (tmO q9 y):=⟨_,rfl⟩
  have hb4:Below w3.heap.size w3 W4:=by rw [hW4];exact below_alloc (Below.refl _ _) _
  have hO4:W4.heap[w3.heap.size]?=some (tmO q9 y):=by rw [hW4];exact blk_new _ _
  have hz3:=HZ3.out
  have hz0:=HB3.out.size
  have HX4:=Ak ((hb4.block _ (by omega)).trans HX3.out)
  have hX14:=(hb4.block _ (show w.heap.size+1<w3.heap.size by omega)).trans HX13.out
  have HX14:=Ak hX14
  have HT4:=Ak (HT9.out.later hb4)
  have HO4:=Ak hO4
  have HB4:=Ak (below_then HB3.out HB3.out.size hb4)
  have hzo:=blk_lt hO4
  have HBW4:=Ak hb4
  have hgf:=(hb4.block gf (by omega)).trans ((HB3.out.block gf (by omega)).trans HR.out.fr)
  have hgb:=(hb4.block gb (by omega)).trans ((HB3.out.block gb (by omega)).trans HR.out.by_)
  have k1c:W4.cell? ⟨gf,0,none⟩=some (.int .i64 fr):=by rw [cell_of_row _ _ _ _ _ _ hgf];rfl
  have k2c:W4.cell? ⟨gb,0,none⟩=some (.int .i64 by_):=by rw [cell_of_row _ _ _ _ _ _ hgb];rfl
  obtain ⟨c0,c1,c2,c3,c4,c5,c6,c7⟩:=row8 HX4.out
  obtain ⟨r0,r1,r2,r3,r4,r5,r6,r7,f0,f1,f2,f3,f4,f5,f6,f7⟩:=row8c hX14
  have fo:=blk_frozen hO4 1
  obtain ⟨o0,o1,o2,o3,o4,o5,o6,o7⟩:=row8 hO4
  unfold tmO at hW4
  rw [← hW4]
  clear hW4 hb4 hO4 hX14 hgf hgb
  by_cases hlo:t.num<b
  ·obtain rfl:y=z:=by rw [HYV.out,HZV.out,liftN_lo (.inl hlo)]
   go_wp2_with (refine wpList_load_row rfl 28 _ rfl (w3.heap.size) rfl 28 _ (0,0) _ HO4.out Try.underlying28 rfl (by kernel_rfl) ?_)
   refine bodyPost_ret (results_c rfl _ _ (w.heap.size+1) 28 #[.int .i64 y.kind,.int .i64 y.num,.string y.name,.int .i64 y.lv.kind,.int .i64 y.lv.num,.slice q9.A y.lv.kids.length q9.c,.slice q9.B y.ls.length q9.d,.slice q9.K y.kids.length q9.e] (0,0) _ rfl (set8 HX14.out) Try.underlying28 rfl (by kernel_rfl)) rfl ?_
   exact tm_ret (g:=w.heap.size+1) HT4.out (chg_set8 W4 (w.heap.size+1) (.int .i64 y.kind) (.int .i64 y.num) (.string y.name) (.int .i64 y.lv.kind) (.int .i64 y.lv.num) (.slice q9.A y.lv.kids.length q9.c) (.slice q9.B y.ls.length q9.d) (.slice q9.K y.kids.length q9.e)) hg0 (by omega) (by have:=HZ.out;omega) HB4.out
  ·by_cases hlo2:t.num - b<fr
   ·obtain rfl:y=z:=by rw [HYV.out,HZV.out,liftN_lo (.inr hlo2)]
    go_wp2_with (refine wpList_load_row rfl 28 _ rfl (w3.heap.size) rfl 28 _ (0,0) _ HO4.out Try.underlying28 rfl (by kernel_rfl) ?_)
    refine bodyPost_ret (results_c rfl _ _ (w.heap.size+1) 28 #[.int .i64 y.kind,.int .i64 y.num,.string y.name,.int .i64 y.lv.kind,.int .i64 y.lv.num,.slice q9.A y.lv.kids.length q9.c,.slice q9.B y.ls.length q9.d,.slice q9.K y.kids.length q9.e] (0,0) _ rfl (set8 HX14.out) Try.underlying28 rfl (by kernel_rfl)) rfl ?_
    exact tm_ret (g:=w.heap.size+1) HT4.out (chg_set8 W4 (w.heap.size+1) (.int .i64 y.kind) (.int .i64 y.num) (.string y.name) (.int .i64 y.lv.kind) (.int .i64 y.lv.num) (.slice q9.A y.lv.kids.length q9.c) (.slice q9.B y.ls.length q9.d) (.slice q9.K y.kids.length q9.e)) hg0 (by omega) (by have:=HZ.out;omega) HB4.out
   ·have hno:¬ (t.num<b∨t.num - b<fr):=fun h=>h.elim hlo hlo2
    by_cases hpos:0<by_
    ·by_cases hm:t.num≤9223372036854775807 - by_
     ·go_upto_region 6 with (fail)
      obtain ⟨W5,hW5⟩:∃ W5,W5=W4.setCell ⟨w3.heap.size,1,none⟩ (.int .i64 (t.num+by_)):=⟨_,rfl⟩
      have hc5:=chg_set W4 w3.heap.size 1 (.int .i64 (t.num+by_))
      have hO5:=blk_put HO4.out 1 (.int .i64 (t.num+by_)) rfl
      rw [← hW5] at hc5 hO5 ⊢
      clear hW5
      have HZE:=Ak (show z=varT (t.num+by_) by rw [HZV.out];congr 1;rw [liftN_up hno hpos];omega)
      have HO5:=Ak (show W5.heap[w3.heap.size]?=some (tmO q9 z) by rw [hO5,HZE.out,HYV.out];rfl)
      have hX15:=(hc5.block (w.heap.size+1) (by omega) (by omega)).trans HX14.out
      have HX15:=Ak hX15
      have HT5:=Ak (show TmS W5 (fun k=>k<g0∨W.heap.size≤k) q9 z by
       have h:=HT9Z.out
       rw [HYV.out] at h
       rw [HZE.out]
       exact ((TmS.renum (m:=t.num+by_) h (by omega)).same fun k hk hz=>(hc5.block k (by omega) (by omega)).trans (HBW4.out.block k hk.2)).mono fun k hk _=>hk.1)
      have HB5:=Ak (Chg.trans_below HB4.out hc5 (fun k h=>by omega) HB4.out.size)
      obtain ⟨s0,s1,s2,s3,s4,s5,s6,s7,h0,h1,h2,h3,h4,h5,h6,h7⟩:=row8c hX15
      clear hc5 hO5 hX15 r0 r1 r2 r3 r4 r5 r6 r7 f0 f1 f2 f3 f4 f5 f6 f7 o0 o1 o2 o3 o4 o5 o6 o7 c0 c1 c2 c3 c4 c5 c6 c7 k1c k2c
      go_wp2_with (refine wpList_load_row rfl 28 _ rfl (w3.heap.size) rfl 28 _ (0,0) _ HO5.out Try.underlying28 rfl (by kernel_rfl) ?_)
      refine bodyPost_ret (results_c rfl _ _ (w.heap.size+1) 28 #[.int .i64 z.kind,.int .i64 z.num,.string z.name,.int .i64 z.lv.kind,.int .i64 z.lv.num,.slice q9.A z.lv.kids.length q9.c,.slice q9.B z.ls.length q9.d,.slice q9.K z.kids.length q9.e] (0,0) _ rfl (set8 HX15.out) Try.underlying28 rfl (by kernel_rfl)) rfl ?_
      exact tm_ret (g:=w.heap.size+1) HT5.out (chg_set8 W5 (w.heap.size+1) (.int .i64 z.kind) (.int .i64 z.num) (.string z.name) (.int .i64 z.lv.kind) (.int .i64 z.lv.num) (.slice q9.A z.lv.kids.length q9.c) (.slice q9.B z.ls.length q9.d) (.slice q9.K z.kids.length q9.e)) hg0 (by omega) (by have:=HZ.out;omega) HB5.out
     ·have hm2:¬ t.num≤9223372036854775807 - by_:=hm
      go_upto_region 6 with (fail)
      obtain ⟨W5,hW5⟩:∃ W5,W5=W4.setCell ⟨w3.heap.size,1,none⟩ (.int .i64 (9223372036854775807)):=⟨_,rfl⟩
      have hc5:=chg_set W4 w3.heap.size 1 (.int .i64 (9223372036854775807))
      have hO5:=blk_put HO4.out 1 (.int .i64 (9223372036854775807)) rfl
      rw [← hW5] at hc5 hO5 ⊢
      clear hW5
      have HZE:=Ak (show z=varT (9223372036854775807) by rw [HZV.out];congr 1;rw [liftN_up hno hpos];omega)
      have HO5:=Ak (show W5.heap[w3.heap.size]?=some (tmO q9 z) by rw [hO5,HZE.out,HYV.out];rfl)
      have hX15:=(hc5.block (w.heap.size+1) (by omega) (by omega)).trans HX14.out
      have HX15:=Ak hX15
      have HT5:=Ak (show TmS W5 (fun k=>k<g0∨W.heap.size≤k) q9 z by
       have h:=HT9Z.out
       rw [HYV.out] at h
       rw [HZE.out]
       exact ((TmS.renum (m:=9223372036854775807) h (by omega)).same fun k hk hz=>(hc5.block k (by omega) (by omega)).trans (HBW4.out.block k hk.2)).mono fun k hk _=>hk.1)
      have HB5:=Ak (Chg.trans_below HB4.out hc5 (fun k h=>by omega) HB4.out.size)
      obtain ⟨s0,s1,s2,s3,s4,s5,s6,s7,h0,h1,h2,h3,h4,h5,h6,h7⟩:=row8c hX15
      clear hc5 hO5 hX15 r0 r1 r2 r3 r4 r5 r6 r7 f0 f1 f2 f3 f4 f5 f6 f7 o0 o1 o2 o3 o4 o5 o6 o7 c0 c1 c2 c3 c4 c5 c6 c7 k1c k2c
      go_wp2_with (refine wpList_load_row rfl 28 _ rfl (w3.heap.size) rfl 28 _ (0,0) _ HO5.out Try.underlying28 rfl (by kernel_rfl) ?_)
      refine bodyPost_ret (results_c rfl _ _ (w.heap.size+1) 28 #[.int .i64 z.kind,.int .i64 z.num,.string z.name,.int .i64 z.lv.kind,.int .i64 z.lv.num,.slice q9.A z.lv.kids.length q9.c,.slice q9.B z.ls.length q9.d,.slice q9.K z.kids.length q9.e] (0,0) _ rfl (set8 HX15.out) Try.underlying28 rfl (by kernel_rfl)) rfl ?_
      exact tm_ret (g:=w.heap.size+1) HT5.out (chg_set8 W5 (w.heap.size+1) (.int .i64 z.kind) (.int .i64 z.num) (.string z.name) (.int .i64 z.lv.kind) (.int .i64 z.lv.num) (.slice q9.A z.lv.kids.length q9.c) (.slice q9.B z.ls.length q9.d) (.slice q9.K z.kids.length q9.e)) hg0 (by omega) (by have:=HZ.out;omega) HB5.out
    ·by_cases hm:b<t.num+by_
     ·go_upto_region 6 with (fail)
      obtain ⟨W5,hW5⟩:∃ W5,W5=W4.setCell ⟨w3.heap.size,1,none⟩ (.int .i64 (t.num+by_)):=⟨_,rfl⟩
      have hc5:=chg_set W4 w3.heap.size 1 (.int .i64 (t.num+by_))
      have hO5:=blk_put HO4.out 1 (.int .i64 (t.num+by_)) rfl
      rw [← hW5] at hc5 hO5 ⊢
      clear hW5
      have HZE:=Ak (show z=varT (t.num+by_) by rw [HZV.out];congr 1;rw [liftN_dn hno hpos];omega)
      have HO5:=Ak (show W5.heap[w3.heap.size]?=some (tmO q9 z) by rw [hO5,HZE.out,HYV.out];rfl)
      have hX15:=(hc5.block (w.heap.size+1) (by omega) (by omega)).trans HX14.out
      have HX15:=Ak hX15
      have HT5:=Ak (show TmS W5 (fun k=>k<g0∨W.heap.size≤k) q9 z by
       have h:=HT9Z.out
       rw [HYV.out] at h
       rw [HZE.out]
       exact ((TmS.renum (m:=t.num+by_) h (by omega)).same fun k hk hz=>(hc5.block k (by omega) (by omega)).trans (HBW4.out.block k hk.2)).mono fun k hk _=>hk.1)
      have HB5:=Ak (Chg.trans_below HB4.out hc5 (fun k h=>by omega) HB4.out.size)
      obtain ⟨s0,s1,s2,s3,s4,s5,s6,s7,h0,h1,h2,h3,h4,h5,h6,h7⟩:=row8c hX15
      clear hc5 hO5 hX15 r0 r1 r2 r3 r4 r5 r6 r7 f0 f1 f2 f3 f4 f5 f6 f7 o0 o1 o2 o3 o4 o5 o6 o7 c0 c1 c2 c3 c4 c5 c6 c7 k1c k2c
      go_wp2_with (refine wpList_load_row rfl 28 _ rfl (w3.heap.size) rfl 28 _ (0,0) _ HO5.out Try.underlying28 rfl (by kernel_rfl) ?_)
      refine bodyPost_ret (results_c rfl _ _ (w.heap.size+1) 28 #[.int .i64 z.kind,.int .i64 z.num,.string z.name,.int .i64 z.lv.kind,.int .i64 z.lv.num,.slice q9.A z.lv.kids.length q9.c,.slice q9.B z.ls.length q9.d,.slice q9.K z.kids.length q9.e] (0,0) _ rfl (set8 HX15.out) Try.underlying28 rfl (by kernel_rfl)) rfl ?_
      exact tm_ret (g:=w.heap.size+1) HT5.out (chg_set8 W5 (w.heap.size+1) (.int .i64 z.kind) (.int .i64 z.num) (.string z.name) (.int .i64 z.lv.kind) (.int .i64 z.lv.num) (.slice q9.A z.lv.kids.length q9.c) (.slice q9.B z.ls.length q9.d) (.slice q9.K z.kids.length q9.e)) hg0 (by omega) (by have:=HZ.out;omega) HB5.out
     ·have hm2:¬ b<t.num+by_:=hm
      go_upto_region 6 with (fail)
      obtain ⟨W5,hW5⟩:∃ W5,W5=W4.setCell ⟨w3.heap.size,1,none⟩ (.int .i64 (b)):=⟨_,rfl⟩
      have hc5:=chg_set W4 w3.heap.size 1 (.int .i64 (b))
      have hO5:=blk_put HO4.out 1 (.int .i64 (b)) rfl
      rw [← hW5] at hc5 hO5 ⊢
      clear hW5
      have HZE:=Ak (show z=varT (b) by rw [HZV.out];congr 1;rw [liftN_dn hno hpos];omega)
      have HO5:=Ak (show W5.heap[w3.heap.size]?=some (tmO q9 z) by rw [hO5,HZE.out,HYV.out];rfl)
      have hX15:=(hc5.block (w.heap.size+1) (by omega) (by omega)).trans HX14.out
      have HX15:=Ak hX15
      have HT5:=Ak (show TmS W5 (fun k=>k<g0∨W.heap.size≤k) q9 z by
       have h:=HT9Z.out
       rw [HYV.out] at h
       rw [HZE.out]
       exact ((TmS.renum (m:=b) h (by omega)).same fun k hk hz=>(hc5.block k (by omega) (by omega)).trans (HBW4.out.block k hk.2)).mono fun k hk _=>hk.1)
      have HB5:=Ak (Chg.trans_below HB4.out hc5 (fun k h=>by omega) HB4.out.size)
      obtain ⟨s0,s1,s2,s3,s4,s5,s6,s7,h0,h1,h2,h3,h4,h5,h6,h7⟩:=row8c hX15
      clear hc5 hO5 hX15 r0 r1 r2 r3 r4 r5 r6 r7 f0 f1 f2 f3 f4 f5 f6 f7 o0 o1 o2 o3 o4 o5 o6 o7 c0 c1 c2 c3 c4 c5 c6 c7 k1c k2c
      go_wp2_with (refine wpList_load_row rfl 28 _ rfl (w3.heap.size) rfl 28 _ (0,0) _ HO5.out Try.underlying28 rfl (by kernel_rfl) ?_)
      refine bodyPost_ret (results_c rfl _ _ (w.heap.size+1) 28 #[.int .i64 z.kind,.int .i64 z.num,.string z.name,.int .i64 z.lv.kind,.int .i64 z.lv.num,.slice q9.A z.lv.kids.length q9.c,.slice q9.B z.ls.length q9.d,.slice q9.K z.kids.length q9.e] (0,0) _ rfl (set8 HX15.out) Try.underlying28 rfl (by kernel_rfl)) rfl ?_
      exact tm_ret (g:=w.heap.size+1) HT5.out (chg_set8 W5 (w.heap.size+1) (.int .i64 z.kind) (.int .i64 z.num) (.string z.name) (.int .i64 z.lv.kind) (.int .i64 z.lv.num) (.slice q9.A z.lv.kids.length q9.c) (.slice q9.B z.ls.length q9.d) (.slice q9.K z.kids.length q9.e)) hg0 (by omega) (by have:=HZ.out;omega) HB5.out
 ·have HZV:=Ak (show z=y by rw [HZZ.out,HY.out];exact liftF_no k1)
  have e1:(t.kind != 1)=true:=by simp [k1]
  clear htk htn k1
  go_upto_block 0 with (first
   | (refine wpList_load_row rfl 28 _ rfl (w.heap.size) rfl 28 _ (0,0) _ HX.out Try.underlying28 rfl (by kernel_rfl) ?_)
   | (go_at_call 63;go_must (refine (node_calls (fun k=>k<g0) t p W HIN.out).mono ?_;rw [← HY.out];rintro e w3 ⟨q9,rfl,ht9,hb3⟩;have HT9:=Ak ht9;have HT9Z:=Ak (TmS.mono (S':=fun k=>(k<g0∨W.heap.size≤k)∧k<w3.heap.size) ht9 fun k h hz=>⟨h,hz⟩);have HX3:=Ak ((hb3.block _ (blk_lt HX.out)).trans HX.out);have HX13:=Ak ((hb3.block _ (blk_lt HX1.out)).trans HX1.out);have HB3:=Ak (below_then HB.out HB.out.size hb3);have HZ3:=Ak (show w.heap.size+1+1≤w3.heap.size by have:=hb3.size;have:=HZ.out;omega);clear ht9 hb3;unfold tmV)))
  obtain ⟨W4,hW4⟩:∃ W4,W4=w3.alloc (tmO q9 y):=⟨_,rfl⟩
  have hb4:Below w3.heap.size w3 W4:=by rw [hW4];exact below_alloc (Below.refl _ _) _
  have hO4:W4.heap[w3.heap.size]?=some (tmO q9 y):=by rw [hW4];exact blk_new _ _
  have hz3:=HZ3.out
  have hz0:=HB3.out.size
  have HX4:=Ak ((hb4.block _ (by omega)).trans HX3.out)
  have hX14:=(hb4.block _ (show w.heap.size+1<w3.heap.size by omega)).trans HX13.out
  have HX14:=Ak hX14
  have HT4:=Ak (HT9.out.later hb4)
  have HO4:=Ak hO4
  have HB4:=Ak (below_then HB3.out HB3.out.size hb4)
  have hzo:=blk_lt hO4
  have HBW4:=Ak hb4
  have hgf:=(hb4.block gf (by omega)).trans ((HB3.out.block gf (by omega)).trans HR.out.fr)
  have hgb:=(hb4.block gb (by omega)).trans ((HB3.out.block gb (by omega)).trans HR.out.by_)
  have k1c:W4.cell? ⟨gf,0,none⟩=some (.int .i64 fr):=by rw [cell_of_row _ _ _ _ _ _ hgf];rfl
  have k2c:W4.cell? ⟨gb,0,none⟩=some (.int .i64 by_):=by rw [cell_of_row _ _ _ _ _ _ hgb];rfl
  obtain ⟨c0,c1,c2,c3,c4,c5,c6,c7⟩:=row8 HX4.out
  obtain ⟨r0,r1,r2,r3,r4,r5,r6,r7,f0,f1,f2,f3,f4,f5,f6,f7⟩:=row8c hX14
  have fo:=blk_frozen hO4 1
  obtain ⟨o0,o1,o2,o3,o4,o5,o6,o7⟩:=row8 hO4
  unfold tmO at hW4
  rw [← hW4]
  clear hW4 hb4 hO4 hX14 hgf hgb
  obtain rfl:y=z:=HZV.out.symm
  go_wp2_with (refine wpList_load_row rfl 28 _ rfl (w3.heap.size) rfl 28 _ (0,0) _ HO4.out Try.underlying28 rfl (by kernel_rfl) ?_)
  refine bodyPost_ret (results_c rfl _ _ (w.heap.size+1) 28 #[.int .i64 y.kind,.int .i64 y.num,.string y.name,.int .i64 y.lv.kind,.int .i64 y.lv.num,.slice q9.A y.lv.kids.length q9.c,.slice q9.B y.ls.length q9.d,.slice q9.K y.kids.length q9.e] (0,0) _ rfl (set8 HX14.out) Try.underlying28 rfl (by kernel_rfl)) rfl ?_
  exact tm_ret (g:=w.heap.size+1) HT4.out (chg_set8 W4 (w.heap.size+1) (.int .i64 y.kind) (.int .i64 y.num) (.string y.name) (.int .i64 y.lv.kind) (.int .i64 y.lv.num) (.slice q9.A y.lv.kids.length q9.c) (.slice q9.B y.ls.length q9.d) (.slice q9.K y.kids.length q9.e)) hg0 (by omega) (by have:=HZ.out;omega) HB4.out

def liftT (fr by_:Int) (t:Tm):Tm:=rebP (liftF fr by_) t 0
theorem reb_lift (g0 g1 gf gb:Nat) (fr by_:Int) (t:Tm) (p:Pl) (w:World) (hok:okT t) (h01:g0≤g1) (hgf:gf<g1) (hgb:gb<g1) (hg1:g1≤w.heap.size) (hf0:0≤fr) (hby:-1048576≤by_∧by_≤1048576) (hin:TmIn w g0 p t) (hR:RepLi gf gb fr by_ w) :
  Calls Try.prog 60 #[tmV p t,.int .i64 0,.func (.func 97) #[] #[.pointer (some ⟨gf,0,none⟩),.pointer (some ⟨gb,0,none⟩)]] w (TmGot w (fun k=>k<g0) (liftT fr by_ t)):=
 reb_Li (liftF fr by_) (RepLi gf gb fr by_) (fun k=>k<g0) g0 g1 h01 (fun _ h=>h) gf gb (fun W W' h hs=>⟨(hs gf hgf).trans h.fr,(hs gb hgb).trans h.by_⟩)
  (fun t p b w _ hb0 hb1 hg hin hR=>lift1_calls g0 g1 gf gb fr by_ t p b w h01 hgf hgb hg hb0 hb1 hf0 hby hin hR) _ t (Nat.lt_succ_self _) p 0 w (by omega) (by have:=hok.2;omega) hg1 hin hR
set_option maxRecDepth 100000 in
set_option maxHeartbeats 2000000 in
theorem tlift_calls (g0:Nat) (fr by_:Int) (t:Tm) (p:Pl) (w:World) (hok:okT t) (hg0:g0≤w.heap.size) (hf0:0≤fr) (hby:-1048576≤by_∧by_≤1048576) (hin:TmIn w g0 p t) :
  Calls Try.prog 62 #[tmV p t,.int .i64 fr,.int .i64 by_] w (TmGot w (fun k=>k<g0) (liftT fr by_ t)):=by
 obtain ⟨W,hW⟩:∃ W,W=(((w.alloc (tmO p t)).alloc (.cells #[.int .i64 fr] 3 (0,0))).alloc (.cells #[.int .i64 by_] 3 (0,0))).alloc (outK 0 (.slice none 0 0)):=⟨_,rfl⟩
 have hb:Below w.heap.size w W:=by rw [hW];exact below_alloc (below_alloc (below_alloc (below_alloc (Below.refl _ _) _) _) _) _
 have HX:=Ak (show W.heap[w.heap.size]?=some (tmO p t) by rw [hW];exact blk_alloc (blk_alloc (box0 w _ _) _) _)
 have HR:=Ak (show RepLi (w.heap.size+1) (w.heap.size+1+1) fr by_ W by
  rw [hW]
  refine ⟨blk_alloc (blk_alloc (box1 w _ _) _) _,blk_alloc ?_ _⟩
  have:=blk_new ((w.alloc (tmO p t)).alloc (.cells #[.int .i64 fr] 3 (0,0))) (.cells #[.int .i64 by_] 3 (0,0))
  simpa using this)
 have hXR:W.heap[w.heap.size+1+1+1]?=some (outK 0 (.slice none 0 0)):=by
  rw [hW]
  have:=blk_new (((w.alloc (tmO p t)).alloc (.cells #[.int .i64 fr] 3 (0,0))).alloc (.cells #[.int .i64 by_] 3 (0,0))) (outK 0 (.slice none 0 0))
  simpa using this
 have HXR:=Ak hXR
 have HZ:=Ak (blk_lt hXR)
 have HB:=Ak hb
 have HIN:=Ak (TmIn.stay hin (hb.mono hg0))
 have HOK:=Ak hok
 obtain ⟨y,hy⟩:∃ y,y=liftT fr by_ t:=⟨_,rfl⟩
 have HY:=Ak hy
 rw [← hy]
 obtain ⟨hby0,hby1⟩:=hby
 clear hin hb hy hok hXR
 unfold tmV
 unfold tmO at hW
 go_enter Try.func62,Try.ntmps62
 go_upto_region 1 with (fail)
 rw [← hW]
 clear hW
 go_wp2_with (first
  | (refine wpList_load_row rfl 28 _ rfl (w.heap.size) rfl 28 _ (0,0) _ HX.out Try.underlying28 rfl (by kernel_rfl) ?_)
  | (go_at_call 60;go_must (refine (reb_lift g0 (w.heap.size+1+1+1) (w.heap.size+1) (w.heap.size+1+1) fr by_ t p W HOK.out (by omega) (by omega) (by omega) (by have:=HZ.out;omega) hf0 ⟨hby0,hby1⟩ HIN.out HR.out).mono ?_;rw [← HY.out];rintro e w3 ⟨q9,rfl,ht9,hb3⟩;have HT9:=Ak ht9;have hX13:=(hb3.block _ (blk_lt HXR.out)).trans HXR.out;have HX13:=Ak hX13;have HB3:=Ak (below_then HB.out HB.out.size hb3);obtain ⟨r0,r1,r2,r3,r4,r5,r6,r7,f0,f1,f2,f3,f4,f5,f6,f7⟩:=row8c hX13;clear ht9 hb3 hX13;unfold tmV)))
 refine bodyPost_ret (results_c rfl _ _ (w.heap.size+1+1+1) 28 #[.int .i64 y.kind,.int .i64 y.num,.string y.name,.int .i64 y.lv.kind,.int .i64 y.lv.num,.slice q9.A y.lv.kids.length q9.c,.slice q9.B y.ls.length q9.d,.slice q9.K y.kids.length q9.e] (0,0) _ rfl (set8 HX13.out) Try.underlying28 rfl (by kernel_rfl)) rfl ?_
 exact tm_ret (g:=w.heap.size+1+1+1) HT9.out (chg_set8 w3 (w.heap.size+1+1+1) (.int .i64 y.kind) (.int .i64 y.num) (.string y.name) (.int .i64 y.lv.kind) (.int .i64 y.lv.num) (.slice q9.A y.lv.kids.length q9.c) (.slice q9.B y.ls.length q9.d) (.slice q9.K y.kids.length q9.e)) hg0 (by omega) HZ.out HB3.out
def zeroT:Tm:=.mk 0 0 noName lv0 [] []
theorem TmS.zero (w:World) (S:Nat→Prop):TmS w S ⟨none,0,none,0,none,0⟩ zeroT:=TmS.flat (LvS.leaf _ _ _ _) (LvS.leaf _ _ _ _) _ _ _ ⟨by decide,by decide,by simp⟩
end Go.Proofs.Ytdboloabpjmgaaa

namespace Go.Proofs.Ytdboloabpjmgaaa
open Go.RowKit Go.Proofs.YtdboloabpjmgaaaW.PrintWords Go.RegionInvYtdboloabpjmgaaa Go.RegionEYtdboloabpjmgaaa

def hitB (t:Tm) (b:Int):Bool:=decide (t.kind=1∧t.num=b)
def plF (sz:Int) (t:Tm) (_ b:Int) (n:Int):Bool × Int:=(decide (0<sz),if hitB t b=true then wrap64 (n+1) else n)
def RepPl (g1 g2:Nat) (sz:Int) (n:Int) (w:World):Prop:=NumAt w g1 n∧NumAt w g2 sz
set_option maxHeartbeats 2000000 in
theorem inst1_calls (t:Tm) (p:Pl) (d b sz n:Int) (w:World) (g1 g2:Nat) (hne:g1≠g2) (hR:RepPl g1 g2 sz n w) :
  Calls Try.prog 59 #[tmV p t,.int .i64 d,.int .i64 b,.pointer (some ⟨g1,0,none⟩),.pointer (some ⟨g2,0,none⟩)] w (FoldPost (RepPl g1 g2 sz) (fun k=>k=g1) w (plF sz t d b n)):=by
 obtain ⟨h1,h2⟩:=hR
 obtain ⟨W,hW⟩:∃ W,W=w.alloc (tmO p t):=⟨_,rfl⟩
 have HX:=Ak (show W.heap[w.heap.size]?=some (tmO p t) by rw [hW];exact blk_new _ _)
 have HC:=Ak (show Chg (fun k=>k=g1) w W by rw [hW];exact chg_alloc _ _ _)
 have H1:=Ak (show NumAt W g1 n by rw [hW];exact h1.alloc _)
 have H2:=Ak (show NumAt W g2 sz by rw [hW];exact h2.alloc _)
 clear h1 h2
 unfold tmV
 unfold tmO at hW
 go_enter Try.func59,Try.ntmps59
 go_upto_region 1 with (fail)
 rw [← hW]
 clear hW
 have c1:=H1.out.cell
 have c2:=H2.out.cell
 have f1:=blk_frozen H1.out 0
 have z1:=blk_lt H1.out
 obtain ⟨o0,o1,o2,o3,o4,o5,o6,o7⟩:=row8 HX.out
 have hne':g2≠g1:=fun e=>hne e.symm
 by_cases k1:t.kind=1
 ·have e1:(t.kind == 1)=true:=by simp [k1]
  by_cases k2:t.num=b
  ·have e2:(t.num == b)=true:=by simp [k2]
   have HH:=Ak (show plF sz t d b n=(decide (0<sz),wrap64 (n+1)) by unfold plF;rw [if_pos (by unfold hitB;exact decide_eq_true ⟨k1,k2⟩)])
   clear k1 k2
   go_wp2
   go_ret
   rw [HH.out]
   have hc:=chg_set W g1 0 (.int .i64 (wrap64 (n+1)))
   exact ⟨rfl,⟨H1.out.set _,(hc.block g2 (blk_lt H2.out) hne').trans H2.out⟩,chg_trans HC.out hc⟩
  ·have e2:(t.num == b)=false:=by simp [k2]
   have HH:=Ak (show plF sz t d b n=(decide (0<sz),n) by unfold plF;rw [if_neg (by unfold hitB;simp [k2])])
   clear k1 k2
   go_wp2
   go_ret
   rw [HH.out]
   exact ⟨rfl,⟨H1.out,H2.out⟩,HC.out⟩
 ·have e1:(t.kind == 1)=false:=by simp [k1]
  have HH:=Ak (show plF sz t d b n=(decide (0<sz),n) by unfold plF;rw [if_neg (by unfold hitB;simp [k1])])
  clear k1
  go_wp2
  go_ret
  rw [HH.out]
  exact ⟨rfl,⟨H1.out,H2.out⟩,HC.out⟩
theorem foldPl_calls (t:Tm) (p:Pl) (B g1 g2:Nat) (sz:Int) (w:World) (hne:g1≠g2) (h1:B≤g1) (h2:B≤g2) (hin:TmIn w B p t) (hn1:NumAt w g1 0) (hn2:NumAt w g2 sz) (hok:0<sz→okT t) :
  Calls Try.prog 58 #[tmV p t,.int .i64 1,.int .i64 0,vfPl g1 g2] w (FoldPost (RepPl g1 g2 sz) (fun k=>k=g1∨k=g2) w (foldP (plF sz) t 1 0 0)):=
 fold_Pl (plF sz) (RepPl g1 g2 sz) (fun _=>True) (fun t d=>(0≤d∧d≤2001)∧(0<sz→d+depthT t≤2001)) (fun k=>k=g1∨k=g2) B (max g1 g2+1) g1 g2 (fun k h=>by omega) (by omega)
  (fun s W W' h hs=>⟨(hs g1 (.inl rfl)).trans h.1,(hs g2 (.inr rfl)).trans h.2⟩)
  (fun t p d b s w hP _ _ hI _ _ hR=>(inst1_calls t p d b sz s w g1 g2 hne hR).mono fun e w' h=>⟨h.1,h.2.1,h.2.2.mono fun k h=>.inl h⟩)
  (fun t d b s hP hI h=>⟨trivial,fun i=>by have h:=of_decide_eq_true h;have:=hP.2 h;have:=depth_kid t i;have:=depth_pos (kidF t i);exact ⟨by omega,fun _=>by omega⟩⟩)
  (fun t d h=>by omega) _ t (Nat.lt_succ_self _) p 1 0 0 w ⟨by omega,fun h=>by have:=(hok h).2;omega⟩ (by omega) (by omega) trivial (by have:=blk_lt hn1;have:=blk_lt hn2;omega) hin ⟨hn1,hn2⟩
def occT (t:Tm) (b:Int):Nat:=(if hitB t b=true then 1 else 0)+((List.finRange (nK t)).map fun i=>occT (kidF t i) (b+moreZ t i)).sum
termination_by SizeOf.sizeOf t
decreasing_by exact kidF_lt t i
def occK (t:Tm) (b:Int) (xs:List (Fin (nK t))):Nat:=(xs.map fun i=>occT (kidF t i) (b+moreZ t i)).sum
theorem occ_eq (t:Tm) (b:Int):occT t b=(if hitB t b=true then 1 else 0)+occK t b (List.finRange (nK t)):=by rw [occT];rfl
theorem pl_val (sz:Int) (hsz:0<sz) (N:Nat):∀ (t:Tm),SizeOf.sizeOf t<N→∀ (d b n:Int),0≤n→n+sizeT t≤1000000→foldP (plF sz) t d b n=(true,n+occT t b)∧occT t b≤sizeT t:=by
 induction N with
 | zero=>intro t h;omega
 | succ N ih =>
  intro t hN d b n h0 hn
  have h1:(plF sz t d b n).1=true:=decide_eq_true hsz
  rw [foldP_go h1]
  have key:∀ (xs:List (Fin (nK t))) (n:Int),0≤n→n+sumK t xs≤1000000→runL (fun (i:Fin (nK t)) s=>foldP (plF sz) (kidF t i) (d+1) (b+moreZ t i) s) xs n=(true,n+occK t b xs)∧occK t b xs≤sumK t xs:=by
   intro xs
   induction xs with
   | nil=>intro n _ _;simp [runL,occK,sumK]
   | cons x r ihr =>
    intro n h0 hm
    have e1:sumK t (x :: r)=sizeT (kidF t x)+sumK t r:=by unfold sumK;rw [List.map_cons,List.sum_cons]
    have e2:occK t b (x :: r)=occT (kidF t x) (b+moreZ t x)+occK t b r:=by unfold occK;rw [List.map_cons,List.sum_cons]
    rw [e1] at hm
    push_cast at hm
    have h4:=ih (kidF t x) (by have:=kidF_lt t x;omega) (d+1) (b+moreZ t x) n h0 (by omega)
    have h5:=ihr (n+occT (kidF t x) (b+moreZ t x)) (by omega) (by omega)
    rw [runL,h4.1,if_pos rfl,h5.1,e1,e2]
    refine ⟨?_,by omega⟩
    simp only [Prod.mk.injEq,true_and]
    push_cast
    omega
  rw [size_eq] at hn
  push_cast at hn
  have hk:=key (List.finRange (nK t)) (plF sz t d b n).2 (by unfold plF;simp only;split <;> (try unfold wrap64) <;> omega) (by unfold plF;simp only;split <;> (try unfold wrap64) <;> omega)
  rw [hk.1,occ_eq,size_eq]
  refine ⟨?_,by split <;> omega⟩
  simp only [Prod.mk.injEq,true_and]
  unfold plF
  simp only
  split
  ·unfold wrap64;push_cast;omega
  ·push_cast;omega
end Go.Proofs.Ytdboloabpjmgaaa

namespace Go.Proofs.Ytdboloabpjmgaaa
open Go.RowKit Go.Proofs.YtdboloabpjmgaaaW.PrintWords Go.RegionInvYtdboloabpjmgaaa Go.RegionEYtdboloabpjmgaaa

def instF (v t:Tm) (b:Int):Tm:=if hitB t b=true then liftT 0 b v else if t.kind=1∧b<t.num then varT (t.num - 1) else nodeP t
theorem instF_hit {v t:Tm} {b:Int} (h:t.kind=1) (h2:t.num=b):instF v t b=liftT 0 b v:=if_pos (decide_eq_true ⟨h,h2⟩)
theorem instF_far {v t:Tm} {b:Int} (h:t.kind=1) (h2:b<t.num):instF v t b=varT (t.num - 1):=by unfold instF hitB;rw [if_neg (by simp;omega),if_pos ⟨h,h2⟩]
theorem instF_near {v t:Tm} {b:Int} (h2:t.num<b):instF v t b=nodeP t:=by unfold instF hitB;rw [if_neg (by simp;omega),if_neg (by omega)]
theorem instF_no {v t:Tm} {b:Int} (h:¬ t.kind=1):instF v t b=nodeP t:=by unfold instF hitB;rw [if_neg (by simp [h]),if_neg (fun k=>h k.1)]
structure RepIs (g0 gv:Nat) (pv:Pl) (v:Tm) (w:World):Prop where
 box:w.heap[gv]?=some (tmO pv v)
 parts:TmIn w g0 pv v
theorem TmGot.as {w:World} {S:Nat→Prop} {y z:Tm} {f:FuncId} {args:Array Value} (hc:Calls Try.prog f args w (TmGot w S y)) (h:y=z):Calls Try.prog f args w (TmGot w S z):=h ▸ hc
set_option maxRecDepth 100000 in
set_option maxHeartbeats 2000000 in
theorem inst2_calls (g0 g1 gv:Nat) (v:Tm) (pv:Pl) (t:Tm) (p:Pl) (b:Int) (w:World) (h01:g0≤g1) (hgv:gv<g1) (hg1:g1≤w.heap.size) (hb0:0≤b) (hb1:b≤1000000) (hokv:okT v) (hin:TmIn w g0 p t) (hR:RepIs g0 gv pv v w) :
  Calls Try.prog 61 #[tmV p t,.int .i64 b,.pointer (some ⟨gv,0,none⟩)] w (TmGot w (fun k=>k<g0) (instF v t b)):=by
 have hg0:g0≤w.heap.size:=Nat.le_trans h01 hg1
 have hnr:=hin.fit.1
 obtain ⟨hn0,hn1⟩:=hnr
 have HOKV:=Ak hokv
 obtain ⟨W,hW⟩:∃ W,W=(w.alloc (tmO p t)).alloc (outK 0 (.slice none 0 0)):=⟨_,rfl⟩
 have hb:Below w.heap.size w W:=by rw [hW];exact below_alloc (below_alloc (Below.refl _ _) _) _
 have HX:=Ak (show W.heap[w.heap.size]?=some (tmO p t) by rw [hW];exact box0 w _ _)
 have HX1:=Ak (show W.heap[w.heap.size+1]?=some (outK 0 (.slice none 0 0)) by rw [hW];exact box1 w _ _)
 have HZ:=Ak (show W.heap.size=w.heap.size+1+1 by rw [hW];simp)
 have HB:=Ak hb
 have HIN:=Ak (TmIn.stay hin (hb.mono hg0))
 have HV:=Ak ((hb.block gv (by omega)).trans hR.box)
 have HVI:=Ak (TmIn.stay hR.parts (hb.mono hg0))
 obtain ⟨z,hz⟩:∃ z,z=instF v t b:=⟨_,rfl⟩
 have HZZ:=Ak hz
 rw [← hz]
 clear hin hb hz hR hokv
 unfold tmV
 unfold tmO at hW
 go_enter Try.func61,Try.ntmps61
 go_upto_block 0 with (fail)
 rw [← hW]
 clear hW
 obtain ⟨c0,c1,c2,c3,c4,c5,c6,c7⟩:=row8 HX.out
 by_cases k1:t.kind=1
 ·have e1:(t.kind == 1)=true:=by simp [k1]
  have K1:=Ak k1
  clear k1
  by_cases k2:t.num=b
  ·have HZA:=Ak (show liftT 0 b v=z from ((HZZ.out).trans (instF_hit K1.out k2)).symm)
   have e2:(t.num == b)=true:=by simp [k2]
   clear k2
   go_wp2_with (first
    | (refine wpList_load_row rfl 28 _ rfl (gv) rfl 28 _ (0,0) _ HV.out Try.underlying28 rfl (by kernel_rfl) ?_)
    | (go_at_call 62;go_must (refine (TmGot.as (tlift_calls g0 0 b v pv W HOKV.out (Nat.le_trans hg0 HB.out.size) (by omega) (by omega) HVI.out) HZA.out).mono ?_;rintro e w3 ⟨q9,rfl,ht9,hb3⟩;have HT9:=Ak ht9;have hX13:=(hb3.block _ (blk_lt HX1.out)).trans HX1.out;have HX13:=Ak hX13;have HB3:=Ak (below_then HB.out HB.out.size hb3);obtain ⟨r0,r1,r2,r3,r4,r5,r6,r7,f0,f1,f2,f3,f4,f5,f6,f7⟩:=row8c hX13;clear ht9 hb3 hX13;unfold tmV)))
   refine bodyPost_ret (results_c rfl _ _ (w.heap.size+1) 28 #[.int .i64 z.kind,.int .i64 z.num,.string z.name,.int .i64 z.lv.kind,.int .i64 z.lv.num,.slice q9.A z.lv.kids.length q9.c,.slice q9.B z.ls.length q9.d,.slice q9.K z.kids.length q9.e] (0,0) _ rfl (set8 HX13.out) Try.underlying28 rfl (by kernel_rfl)) rfl ?_
   exact tm_ret (g:=w.heap.size+1) HT9.out (chg_set8 w3 (w.heap.size+1) (.int .i64 z.kind) (.int .i64 z.num) (.string z.name) (.int .i64 z.lv.kind) (.int .i64 z.lv.num) (.slice q9.A z.lv.kids.length q9.c) (.slice q9.B z.ls.length q9.d) (.slice q9.K z.kids.length q9.e)) hg0 (by omega) (by have:=HZ.out;omega) HB3.out
  ·have e2:(t.num == b)=false:=by simp [k2]
   by_cases k3:b<t.num
   ·have HZA:=Ak (show varT (t.num - 1)=z from ((HZZ.out).trans (instF_far K1.out k3)).symm)
    clear k2
    go_wp2_with (go_at_call 14;go_must (refine (TmGot.as (tvar_calls g0 (t.num - 1) W (by omega)) HZA.out).mono ?_;rintro e w3 ⟨q9,rfl,ht9,hb3⟩;have HT9:=Ak ht9;have hX13:=(hb3.block _ (blk_lt HX1.out)).trans HX1.out;have HX13:=Ak hX13;have HB3:=Ak (below_then HB.out HB.out.size hb3);obtain ⟨r0,r1,r2,r3,r4,r5,r6,r7,f0,f1,f2,f3,f4,f5,f6,f7⟩:=row8c hX13;clear ht9 hb3 hX13;unfold tmV))
    refine bodyPost_ret (results_c rfl _ _ (w.heap.size+1) 28 #[.int .i64 z.kind,.int .i64 z.num,.string z.name,.int .i64 z.lv.kind,.int .i64 z.lv.num,.slice q9.A z.lv.kids.length q9.c,.slice q9.B z.ls.length q9.d,.slice q9.K z.kids.length q9.e] (0,0) _ rfl (set8 HX13.out) Try.underlying28 rfl (by kernel_rfl)) rfl ?_
    exact tm_ret (g:=w.heap.size+1) HT9.out (chg_set8 w3 (w.heap.size+1) (.int .i64 z.kind) (.int .i64 z.num) (.string z.name) (.int .i64 z.lv.kind) (.int .i64 z.lv.num) (.slice q9.A z.lv.kids.length q9.c) (.slice q9.B z.ls.length q9.d) (.slice q9.K z.kids.length q9.e)) hg0 (by omega) (by have:=HZ.out;omega) HB3.out
   ·have HZA:=Ak (show nodeP t=z from ((HZZ.out).trans (instF_near (by omega))).symm)
    clear k2
    go_wp2_with (first
     | (refine wpList_load_row rfl 28 _ rfl (w.heap.size) rfl 28 _ (0,0) _ HX.out Try.underlying28 rfl (by kernel_rfl) ?_)
     | (go_at_call 63;go_must (refine (TmGot.as (node_calls (fun k=>k<g0) t p W HIN.out) HZA.out).mono ?_;rintro e w3 ⟨q9,rfl,ht9,hb3⟩;have HT9:=Ak ht9;have hX13:=(hb3.block _ (blk_lt HX1.out)).trans HX1.out;have HX13:=Ak hX13;have HB3:=Ak (below_then HB.out HB.out.size hb3);obtain ⟨r0,r1,r2,r3,r4,r5,r6,r7,f0,f1,f2,f3,f4,f5,f6,f7⟩:=row8c hX13;clear ht9 hb3 hX13;unfold tmV)))
    refine bodyPost_ret (results_c rfl _ _ (w.heap.size+1) 28 #[.int .i64 z.kind,.int .i64 z.num,.string z.name,.int .i64 z.lv.kind,.int .i64 z.lv.num,.slice q9.A z.lv.kids.length q9.c,.slice q9.B z.ls.length q9.d,.slice q9.K z.kids.length q9.e] (0,0) _ rfl (set8 HX13.out) Try.underlying28 rfl (by kernel_rfl)) rfl ?_
    exact tm_ret (g:=w.heap.size+1) HT9.out (chg_set8 w3 (w.heap.size+1) (.int .i64 z.kind) (.int .i64 z.num) (.string z.name) (.int .i64 z.lv.kind) (.int .i64 z.lv.num) (.slice q9.A z.lv.kids.length q9.c) (.slice q9.B z.ls.length q9.d) (.slice q9.K z.kids.length q9.e)) hg0 (by omega) (by have:=HZ.out;omega) HB3.out
 ·have e1:(t.kind == 1)=false:=by simp [k1]
  have HZA:=Ak (show nodeP t=z from ((HZZ.out).trans (instF_no k1)).symm)
  clear k1
  go_wp2_with (first
   | (refine wpList_load_row rfl 28 _ rfl (w.heap.size) rfl 28 _ (0,0) _ HX.out Try.underlying28 rfl (by kernel_rfl) ?_)
   | (go_at_call 63;go_must (refine (TmGot.as (node_calls (fun k=>k<g0) t p W HIN.out) HZA.out).mono ?_;rintro e w3 ⟨q9,rfl,ht9,hb3⟩;have HT9:=Ak ht9;have hX13:=(hb3.block _ (blk_lt HX1.out)).trans HX1.out;have HX13:=Ak hX13;have HB3:=Ak (below_then HB.out HB.out.size hb3);obtain ⟨r0,r1,r2,r3,r4,r5,r6,r7,f0,f1,f2,f3,f4,f5,f6,f7⟩:=row8c hX13;clear ht9 hb3 hX13;unfold tmV)))
  refine bodyPost_ret (results_c rfl _ _ (w.heap.size+1) 28 #[.int .i64 z.kind,.int .i64 z.num,.string z.name,.int .i64 z.lv.kind,.int .i64 z.lv.num,.slice q9.A z.lv.kids.length q9.c,.slice q9.B z.ls.length q9.d,.slice q9.K z.kids.length q9.e] (0,0) _ rfl (set8 HX13.out) Try.underlying28 rfl (by kernel_rfl)) rfl ?_
  exact tm_ret (g:=w.heap.size+1) HT9.out (chg_set8 w3 (w.heap.size+1) (.int .i64 z.kind) (.int .i64 z.num) (.string z.name) (.int .i64 z.lv.kind) (.int .i64 z.lv.num) (.slice q9.A z.lv.kids.length q9.c) (.slice q9.B z.ls.length q9.d) (.slice q9.K z.kids.length q9.e)) hg0 (by omega) (by have:=HZ.out;omega) HB3.out

def fitT (t:Tm):Tm:=if okT t then t else zeroT
theorem fitT_ok {t:Tm} (h:okT t):fitT t=t:=if_pos h
theorem fitT_no {t:Tm} (h:¬ okT t):fitT t=zeroT:=if_neg h
def instS (t v:Tm):Int:=(sizeT t:Int)+(occT t 0:Int) * ((sizeT v:Int) - 1)
def InstT (t v:Tm):Tm:=if okT t∧okT v∧instS t v≤20000 then fitT (rebP (instF v) t 0) else zeroT
theorem InstT_ok {t v:Tm} (h:okT t) (h2:okT v) (h3:instS t v≤20000):InstT t v=fitT (rebP (instF v) t 0):=if_pos ⟨h,h2,h3⟩
theorem InstT_no {t v:Tm} (h:¬ (okT t∧okT v∧instS t v≤20000)):InstT t v=zeroT:=if_neg h
theorem reb_inst (g0 g1 gv:Nat) (v:Tm) (pv:Pl) (t:Tm) (p:Pl) (w:World) (hok:okT t) (hokv:okT v) (h01:g0≤g1) (hgv:gv<g1) (hg1:g1≤w.heap.size) (hin:TmIn w g0 p t) (hR:RepIs g0 gv pv v w) :
  Calls Try.prog 60 #[tmV p t,.int .i64 0,.func (.func 61) #[] #[.pointer (some ⟨gv,0,none⟩)]] w (TmGot w (fun k=>k<g0) (rebP (instF v) t 0)):=
 reb_Is (instF v) (RepIs g0 gv pv v) (fun k=>k<g0) g0 g1 h01 (fun _ h=>h) gv (fun W W' h hs=>⟨(hs gv hgv).trans h.box,h.parts.same fun k hk _=>hs k (Nat.lt_of_lt_of_le hk h01)⟩)
  (fun t p b w _ hb0 hb1 hg hin hR=>inst2_calls g0 g1 gv v pv t p b w h01 hgv hg hb0 hb1 hokv hin hR) _ t (Nat.lt_succ_self _) p 0 w (by omega) (by have:=hok.2;omega) hg1 hin hR
structure InsB (w W:World) (g0:Nat) (p pv:Pl) (t v:Tm):Prop where
 bt:W.heap[w.heap.size]?=some (tmO p t)
 bv:W.heap[w.heap.size+1]?=some (tmO pv v)
 br:W.heap[w.heap.size+1+1]?=some (outK 0 (.slice none 0 0))
 bel:Below w.heap.size w W
 it:TmIn W g0 p t
 iv:TmIn W g0 pv v
theorem InsB.far {w W W':World} {g0:Nat} {p pv:Pl} {t v:Tm} (h:InsB w W g0 p pv t v) (hg0:g0≤w.heap.size) (hb:Below (w.heap.size+3) W W'):InsB w W' g0 p pv t v:=
 ⟨(hb.block _ (by omega)).trans h.bt,(hb.block _ (by omega)).trans h.bv,(hb.block _ (by omega)).trans h.br,Below.trans h.bel (hb.mono (by omega)),h.it.stay (hb.mono (by omega)),h.iv.stay (hb.mono (by omega))⟩
set_option maxRecDepth 100000 in
set_option maxHeartbeats 4000000 in
theorem Inst_calls (g0:Nat) (t v:Tm) (p pv:Pl) (w:World) (hg0:g0≤w.heap.size) (hin:TmIn w g0 p t) (hinv:TmIn w g0 pv v) :
  Calls Try.prog 17 #[tmV p t,tmV pv v] w (TmGot w (fun k=>k<g0) (InstT t v)):=by
 obtain ⟨W,hW⟩:∃ W,W=((w.alloc (tmO p t)).alloc (tmO pv v)).alloc (outK 0 (.slice none 0 0)):=⟨_,rfl⟩
 have hb:Below w.heap.size w W:=by rw [hW];exact below_alloc (below_alloc (below_alloc (Below.refl _ _) _) _) _
 have hXR:W.heap[w.heap.size+1+1]?=some (outK 0 (.slice none 0 0)):=by
  rw [hW]
  have:=blk_new ((w.alloc (tmO p t)).alloc (tmO pv v)) (outK 0 (.slice none 0 0))
  simpa using this
 have HS:=Ak (show InsB w W g0 p pv t v from ⟨by rw [hW];exact blk_alloc (box0 w _ _) _,by rw [hW];exact blk_alloc (box1 w _ _) _,hXR,hb,TmIn.stay hin (hb.mono hg0),TmIn.stay hinv (hb.mono hg0)⟩)
 have HZ:=Ak (blk_lt hXR)
 have HMT:=Ak (show ∀ h:okT t,measP t=((sizeT t:Int),(depthT t:Int)) from fun h=>meas_yes h)
 obtain ⟨z,hz⟩:∃ z,z=InstT t v:=⟨_,rfl⟩
 have HZZ:=Ak hz
 rw [← hz]
 clear hin hinv hb hz hXR
 unfold tmV
 unfold tmO at hW
 go_enter Try.func17,Try.ntmps17
 go_upto_region 1 with (fail)
 rw [← hW]
 clear hW
 obtain ⟨mt,hmt⟩:∃ x,measP t=x:=⟨_,rfl⟩
 obtain ⟨mv,hmv⟩:∃ x,measP v=x:=⟨_,rfl⟩
 obtain ⟨s1,d1⟩:=mt
 obtain ⟨s2,d2⟩:=mv
 have HM1:=Ak hmt
 have HM2:=Ak hmv
 clear hmt hmv
 go_upto_region 2 with (first
  | (refine wpList_load_row rfl 28 _ rfl (w.heap.size) rfl 28 _ (0,0) _ HS.out.bt Try.underlying28 rfl (by kernel_rfl) ?_)
  | (go_at_call 57;go_must (refine (measure_calls t p W (TmIn.mono HS.out.it (Nat.le_trans hg0 HS.out.bel.size))).mono ?_;rw [HM1.out];rintro e w1 ⟨rfl,hb⟩;dsimp only;have hz1:=hb.size;have HBW1:=Ak hb;clear hb)))
 obtain ⟨W1,hW1⟩:∃ W1,W1=w1.alloc (.cells #[.int .i64 s1] 3 (0,0)):=⟨_,rfl⟩
 have hz0:=HZ.out
 have HS1:=Ak (show InsB w W1 g0 p pv t v from HS.out.far hg0 (by rw [hW1];exact (below_alloc HBW1.out _).mono (by omega)))
 have HN1:=Ak (show NumAt W1 w1.heap.size s1 by rw [hW1];exact blk_new _ _)
 have hzz1:w1.heap.size<W1.heap.size:=blk_lt HN1.out
 rw [← hW1]
 clear hW1 HS HBW1
 go_upto_region 3 with (first
  | (refine wpList_load_row rfl 28 _ rfl (w.heap.size+1) rfl 28 _ (0,0) _ HS1.out.bv Try.underlying28 rfl (by kernel_rfl) ?_)
  | (go_at_call 57;go_must (refine (measure_calls v pv W1 (TmIn.mono HS1.out.iv (Nat.le_trans hg0 HS1.out.bel.size))).mono ?_;rw [HM2.out];rintro e w2 ⟨rfl,hb⟩;dsimp only;have hz2:=hb.size;have HBW2:=Ak hb;clear hb)))
 have HS2:=Ak (HS1.out.far hg0 (HBW2.out.mono (by omega)))
 have HN2:=Ak (show NumAt w2 w1.heap.size s1 from (HBW2.out.block _ hzz1).trans HN1.out)
 clear HS1 HN1
 go_upto_region 4 with (fail)
 obtain ⟨W3,hW3⟩:∃ W3,W3=w2.alloc (.cells #[.int .i64 0] 3 (0,0)):=⟨_,rfl⟩
 have hbw3:Below w2.heap.size w2 W3:=by rw [hW3];exact below_alloc (Below.refl _ _) _
 have HS3:=Ak (HS2.out.far hg0 (hbw3.mono (by omega)))
 have HN3:=Ak (show NumAt W3 w1.heap.size s1 from (hbw3.block _ (by omega)).trans HN2.out)
 have HP3:=Ak (show NumAt W3 w2.heap.size 0 by rw [hW3];exact blk_new _ _)
 have hzz3:w2.heap.size<W3.heap.size:=blk_lt HP3.out
 rw [← hW3]
 clear hW3 hbw3 HS2 HN2 HBW2
 have HOK:=Ak (show 0<s1→okT t from fun h=>Classical.byContradiction fun hn=>by have e:=HM1.out;rw [meas_no hn] at e;simp only [Prod.mk.injEq] at e;omega)
 obtain ⟨fb,fn,hf⟩:∃ fb fn,foldP (plF s1) t 1 0 0=(fb,fn):=⟨_,_,rfl⟩
 have HF:=Ak hf
 clear hf
 go_upto_region 5 with (first
  | (refine wpList_load_row rfl 28 _ rfl (w.heap.size) rfl 28 _ (0,0) _ HS3.out.bt Try.underlying28 rfl (by kernel_rfl) ?_)
  | (go_at_call 58;go_must (refine (foldPl_calls t p w.heap.size w2.heap.size w1.heap.size s1 W3 (by omega) (by omega) (by omega) (TmIn.mono HS3.out.it hg0) HP3.out HN3.out HOK.out).mono ?_;rintro e w4 ⟨rfl,hR,hC⟩;rw [HF.out] at hR;rw [HF.out];dsimp only at hR ⊢;have HR4:=Ak hR;have hz4:=hC.size;have HS4:=Ak (HS3.out.far hg0 (hC.below (fun k h=>by omega) (by omega)));clear hR hC)))
 clear HS3 HN3 HP3
 have c1:=HR4.out.1.cell
 have c2:=HR4.out.2.cell
 by_cases ht:okT t
 ·have hS:=HM1.out
  rw [meas_yes ht] at hS
  simp only [Prod.mk.injEq] at hS
  have hS1:=ht.1
  have hS0:=size_pos t
  have hpl:=pl_val s1 (by omega) _ t (Nat.lt_succ_self _) 1 0 0 (by omega) (by omega)
  rw [HF.out] at hpl
  have hfn:fn=(occT t 0:Int):=by have:=hpl.1;simp only [Prod.mk.injEq] at this;omega
  have hfn2:0≤fn∧fn≤20000:=by have:=hpl.2;omega
  have hs1:1≤s1∧s1≤20000:=by omega
  have hne1:(s1 == 0)=false:=by simp;omega
  have HS1E:=Ak (show s1=(sizeT t:Int) by omega)
  have HFN:=Ak hfn
  have HT:=Ak ht
  clear hS hpl hfn ht hS1 hS0
  by_cases hv:okT v
  ·have hS:=HM2.out
   rw [meas_yes hv] at hS
   simp only [Prod.mk.injEq] at hS
   have hS1:=hv.1
   have hS0:=size_pos v
   have hs2:1≤s2∧s2≤20000:=by omega
   have hne2:(s2 == 0)=false:=by simp;omega
   have HS2E:=Ak (show s2=(sizeT v:Int) by omega)
   have HVV:=Ak hv
   clear hS hv hS1 hS0
   have hpr:0≤fn * (s2 - 1)∧fn * (s2 - 1)≤400000000:=⟨Int.mul_nonneg hfn2.1 (by omega),Int.le_trans (Int.mul_le_mul hfn2.2 (show s2 - 1≤20000 by omega) (by omega) (by omega)) (by decide)⟩
   have HIS:=Ak (show instS t v=s1+fn * (s2 - 1) by unfold instS;rw [HS1E.out,HFN.out,HS2E.out])
   obtain ⟨hp0,hp1⟩:=hpr
   obtain ⟨hfn0,hfn1⟩:=hfn2
   obtain ⟨hs10,hs11⟩:=hs1
   obtain ⟨hs20,hs21⟩:=hs2
   by_cases hbig:20000<s1+fn * (s2 - 1)
   ·obtain rfl:zeroT=z:=(HZZ.out.trans (InstT_no (fun h=>by have:=h.2.2;rw [HIS.out] at this;omega))).symm
    go_upto_region 6 with (fail)
    obtain ⟨r0,r1,r2,r3,r4,r5,r6,r7,f0,f1,f2,f3,f4,f5,f6,f7⟩:=row8c HS4.out.br
    go_wp2
    refine bodyPost_ret (results_c rfl _ _ (w.heap.size+1+1) 28 #[.int .i64 0,.int .i64 0,.string ⟨#[]⟩,.int .i64 0,.int .i64 0,.slice none 0 0,.slice none 0 0,.slice none 0 0] (0,0) _ rfl (set8 HS4.out.br) Try.underlying28 rfl (by kernel_rfl)) rfl ?_
    exact tm_ret (g:=w.heap.size+1+1) (m:=w.heap.size+1+1+1) (TmS.zero w4 _) (chg_set8 w4 (w.heap.size+1+1) (.int .i64 0) (.int .i64 0) (.string ⟨#[]⟩) (.int .i64 0) (.int .i64 0) (.slice none 0 0) (.slice none 0 0) (.slice none 0 0)) hg0 (by omega) (by omega) HS4.out.bel
   ·have HZI:=Ak (HZZ.out.trans (InstT_ok HT.out HVV.out (by rw [HIS.out];omega)))
    obtain ⟨y,hy⟩:∃ y,y=rebP (instF v) t 0:=⟨_,rfl⟩
    have HY:=Ak hy
    rw [← hy] at HZI
    clear hy
    go_upto_region 8 with (first
     | (refine wpList_load_row rfl 28 _ rfl (w.heap.size) rfl 28 _ (0,0) _ HS4.out.bt Try.underlying28 rfl (by kernel_rfl) ?_)
     | (go_at_call 60;go_must (refine (TmGot.as (reb_inst g0 (w.heap.size+2) (w.heap.size+1) v pv t p w4 HT.out HVV.out (by omega) (by omega) (by omega) HS4.out.it ⟨HS4.out.bv,HS4.out.iv⟩) HY.out.symm).mono ?_;rintro e w5 ⟨q9,rfl,ht9,hb5⟩;have HT5:=Ak (TmS.mono (S':=fun k=>(k<g0∨w4.heap.size≤k)∧k<w5.heap.size) ht9 fun k h hz=>⟨h,hz⟩);have hz5:=hb5.size;have HS5:=Ak (HS4.out.far hg0 (hb5.mono (by omega)));clear ht9 hb5;unfold tmV)))
    clear HS4 HR4 c1 c2
    obtain ⟨W6,hW6⟩:∃ W6,W6=w5.alloc (tmO q9 y):=⟨_,rfl⟩
    have hb6:Below w5.heap.size w5 W6:=by rw [hW6];exact below_alloc (Below.refl _ _) _
    have HO6:=Ak (show W6.heap[w5.heap.size]?=some (tmO q9 y) by rw [hW6];exact blk_new _ _)
    have HS6:=Ak (HS5.out.far hg0 (hb6.mono (by omega)))
    have HT6:=Ak (HT5.out.later hb6)
    have hz6:=hb6.size
    have HGE:=Ak (great_eq y)
    unfold tmO at hW6
    rw [← hW6]
    clear hW6 hb6 HS5 HT5
    by_cases hk:okT y
    ·have HG:=Ak (show greatB y=false by rw [HGE.out];simp [hk])
     obtain rfl:y=z:=(HZI.out.trans (fitT_ok hk)).symm
     clear hk
     go_upto_region 10 with (first
      | (refine wpList_load_row rfl 28 _ rfl (w5.heap.size) rfl 28 _ (0,0) _ HO6.out Try.underlying28 rfl (by kernel_rfl) ?_)
      | (go_at_call 55;go_must (refine (great_calls y q9 W6 (TmS.all HT6.out)).mono ?_;rintro e w7 ⟨rfl,hb⟩;rw [HG.out];have HO7:=Ak ((hb.block _ (blk_lt HO6.out)).trans HO6.out);have HT7:=Ak (HT6.out.later hb);have HS7:=Ak (HS6.out.far hg0 (hb.mono (by omega)));clear hb)))
     obtain ⟨o0,o1,o2,o3,o4,o5,o6,o7⟩:=row8 HO7.out
     have hXR7:=HS7.out.br
     obtain ⟨r0,r1,r2,r3,r4,r5,r6,r7,f0,f1,f2,f3,f4,f5,f6,f7⟩:=row8c hXR7
     go_wp2
     refine bodyPost_ret (results_c rfl _ _ (w.heap.size+1+1) 28 #[.int .i64 y.kind,.int .i64 y.num,.string y.name,.int .i64 y.lv.kind,.int .i64 y.lv.num,.slice q9.A y.lv.kids.length q9.c,.slice q9.B y.ls.length q9.d,.slice q9.K y.kids.length q9.e] (0,0) _ rfl (set8 HS7.out.br) Try.underlying28 rfl (by kernel_rfl)) rfl ?_
     exact tm_ret (g:=w.heap.size+1+1) (m:=w4.heap.size) (TmS.mono HT7.out fun k h _=>h.1) (chg_set8 w7 (w.heap.size+1+1) (.int .i64 y.kind) (.int .i64 y.num) (.string y.name) (.int .i64 y.lv.kind) (.int .i64 y.lv.num) (.slice q9.A y.lv.kids.length q9.c) (.slice q9.B y.ls.length q9.d) (.slice q9.K y.kids.length q9.e)) hg0 (by omega) (by omega) HS7.out.bel
    ·have HG:=Ak (show greatB y=true by rw [HGE.out];simp [hk])
     obtain rfl:zeroT=z:=(HZI.out.trans (fitT_no hk)).symm
     clear hk
     go_upto_region 9 with (first
      | (refine wpList_load_row rfl 28 _ rfl (w5.heap.size) rfl 28 _ (0,0) _ HO6.out Try.underlying28 rfl (by kernel_rfl) ?_)
      | (go_at_call 55;go_must (refine (great_calls y q9 W6 (TmS.all HT6.out)).mono ?_;rintro e w7 ⟨rfl,hb⟩;rw [HG.out];have HS7:=Ak (HS6.out.far hg0 (hb.mono (by omega)));clear hb)))
     obtain ⟨r0,r1,r2,r3,r4,r5,r6,r7,f0,f1,f2,f3,f4,f5,f6,f7⟩:=row8c HS7.out.br
     go_wp2
     refine bodyPost_ret (results_c rfl _ _ (w.heap.size+1+1) 28 #[.int .i64 0,.int .i64 0,.string ⟨#[]⟩,.int .i64 0,.int .i64 0,.slice none 0 0,.slice none 0 0,.slice none 0 0] (0,0) _ rfl (set8 HS7.out.br) Try.underlying28 rfl (by kernel_rfl)) rfl ?_
     exact tm_ret (g:=w.heap.size+1+1) (m:=w.heap.size+1+1+1) (TmS.zero w7 _) (chg_set8 w7 (w.heap.size+1+1) (.int .i64 0) (.int .i64 0) (.string ⟨#[]⟩) (.int .i64 0) (.int .i64 0) (.slice none 0 0) (.slice none 0 0) (.slice none 0 0)) hg0 (by omega) (by omega) HS7.out.bel
  ·have hS:=HM2.out
   rw [meas_no hv] at hS
   simp only [Prod.mk.injEq] at hS
   have hne2:(s2 == 0)=true:=by simp;omega
   obtain rfl:zeroT=z:=(HZZ.out.trans (InstT_no (fun h=>hv h.2.1))).symm
   clear hS hv
   go_upto_region 6 with (fail)
   obtain ⟨r0,r1,r2,r3,r4,r5,r6,r7,f0,f1,f2,f3,f4,f5,f6,f7⟩:=row8c HS4.out.br
   go_wp2
   refine bodyPost_ret (results_c rfl _ _ (w.heap.size+1+1) 28 #[.int .i64 0,.int .i64 0,.string ⟨#[]⟩,.int .i64 0,.int .i64 0,.slice none 0 0,.slice none 0 0,.slice none 0 0] (0,0) _ rfl (set8 HS4.out.br) Try.underlying28 rfl (by kernel_rfl)) rfl ?_
   exact tm_ret (g:=w.heap.size+1+1) (m:=w.heap.size+1+1+1) (TmS.zero w4 _) (chg_set8 w4 (w.heap.size+1+1) (.int .i64 0) (.int .i64 0) (.string ⟨#[]⟩) (.int .i64 0) (.int .i64 0) (.slice none 0 0) (.slice none 0 0) (.slice none 0 0)) hg0 (by omega) (by omega) HS4.out.bel
 ·have hS:=HM1.out
  rw [meas_no ht] at hS
  simp only [Prod.mk.injEq] at hS
  have hne1:(s1 == 0)=true:=by simp;omega
  obtain rfl:zeroT=z:=(HZZ.out.trans (InstT_no (fun h=>ht h.1))).symm
  clear hS ht
  go_upto_region 6 with (fail)
  obtain ⟨r0,r1,r2,r3,r4,r5,r6,r7,f0,f1,f2,f3,f4,f5,f6,f7⟩:=row8c HS4.out.br
  go_wp2
  refine bodyPost_ret (results_c rfl _ _ (w.heap.size+1+1) 28 #[.int .i64 0,.int .i64 0,.string ⟨#[]⟩,.int .i64 0,.int .i64 0,.slice none 0 0,.slice none 0 0,.slice none 0 0] (0,0) _ rfl (set8 HS4.out.br) Try.underlying28 rfl (by kernel_rfl)) rfl ?_
  exact tm_ret (g:=w.heap.size+1+1) (m:=w.heap.size+1+1+1) (TmS.zero w4 _) (chg_set8 w4 (w.heap.size+1+1) (.int .i64 0) (.int .i64 0) (.string ⟨#[]⟩) (.int .i64 0) (.int .i64 0) (.slice none 0 0) (.slice none 0 0) (.slice none 0 0)) hg0 (by omega) (by omega) HS4.out.bel

end Go.Proofs.Ytdboloabpjmgaaa

namespace Go.Proofs.Ytdboloabpjmgaaa
open Go.RowKit Go.Proofs.YtdboloabpjmgaaaW.PrintWords Go.RegionInvYtdboloabpjmgaaa Go.RegionEYtdboloabpjmgaaa

def TmLit (T:Nat→Prop) (t:Tm) (v:Value) (w:World) (O:Nat→Prop):Prop:=
 ∃ p q,v=.slice (some ⟨p,0,none⟩) 1 1∧w.heap[p]?=some (.cells (tmC q t).toArray 28 (0,0))∧O p∧TmS w (fun k=>T k∨(O k∧k≠p)) q t
theorem stableE_tmlit {w0:World} {E:Nat→Nat→Prop} {T:Nat→Prop} {t:Tm} (hT:∀ k,T k→Fix w0 E k):StableE w0 E (TmLit T t):=by
 rintro v w w' O ⟨p,q,e,hp,hO,h⟩ hz hk
 exact ⟨p,q,e,(hk p (blk_lt hp) (.inr hO)).trans hp,hO,h.same fun k hk' hz'=>hk k hz' (hk'.imp (hT k) And.left)⟩
theorem stableE_rowv {w0:World} {E:Nat→Nat→Prop} {T:Nat→Prop} {lo n:Nat} {cells:List Value} {t:Tm} (hT:∀ k,T k→Fix w0 E k):StableE w0 E (fun v w O=>RowT T lo n cells t v w O):=by
 rintro v w w' O ⟨q,ho,hO,h⟩ hz hk
 exact ⟨q,ownsRow_same ho fun k hk'=>hk k (own_lt ho k hk') (.inr (hO k hk')),hO,h.same fun k hk' hz'=>hk k hz' (hk'.imp (hT k) And.left)⟩
section
variable {ops:Array Oper} {Q:Exit→Act→World→Prop} {R:Nat→Prop} {a:Act} {w:World} {o:Oper} {T:Nat→Prop}
theorem obE_tmLit {t:Tm} {O2:Nat→Prop} {x:Operand} (hw:Region.wanted o (yielded ops a.tmps)=true)
  (hr:∀ q,a.eval x=tmV q t→(execOp a.eval o).run Try.prog w=.ok (.value (.slice (some ⟨w.heap.size,0,none⟩) 1 1)) (w.alloc (.cells (tmC q t).toArray 28 (0,0))))
  (h2:TmO T t (a.eval x) w O2) (hR2:∀ k,O2 k→R k) (hz2:∀ k,O2 k→k<w.heap.size) (hTz:∀ k,T k→k<w.heap.size):OwesE Try.prog ops Q R (TmLit T t) o a w:=by
 obtain ⟨q,hy,ht⟩:=h2
 refine obE_res (fun k=>O2 k∨k=w.heap.size) hw (hr q hy) (Chg.of_below ((Below.refl _ _).alloc (Nat.le_refl _) _)) ⟨_,q,rfl,blk_new _ _,.inr rfl,?_⟩ (fun k h=>h.elim (fun h=>.inl (hR2 k h)) fun h=>.inr ⟨by omega,by simp;omega⟩)
 exact (ht.later ((Below.refl _ _).alloc (Nat.le_refl _) _)).mono fun k h _=>h.imp id fun h=>⟨.inl h,by have:=hz2 k h;omega⟩
theorem obE_tmPush {t:Tm} {O2:Nat→Prop} {x y:Operand} {ty:TypeId} {lo n c:Nat} {A:Option Addr} {cells:List Value} (_:ty=26) (ho:o.op=.call { callee:=.builtin .append,args:=#[x,y],argTypes:=#[26,26] }) (hw:Region.wanted o (yielded ops a.tmps)=true)
  (hx:a.eval x=.slice A n c) (hV:w.ownsRow lo 28 8 (.slice A n c) n cells) (hRV:∀ k,(Value.slice A n c).ownBlock=some k→R k) (hn:n≤1000000) (hlz:lo≤w.heap.size)
  (h2:TmLit T t (a.eval y) w O2) (hR2:∀ k,O2 k→R k) (hz2:∀ k,O2 k→k<w.heap.size) (hV2:∀ k,(Value.slice A n c).ownBlock=some k→¬ O2 k) (hTV:∀ k,T k→k<lo) :
  OwesE Try.prog ops Q R (fun v w O=>RowT T lo n cells t v w O) o a w:=by
 obtain ⟨p,q,hy,hp,hOp,ht⟩:=h2
 refine obE_list hw ?_
 refine print_append_at lo rfl x y 26 28 _ 8 120 ho Try.underlying26 infoTm rfl (by decide) (by decide) (.slice A n c) n cells (tmC q t) hx hy hp rfl (List.all_eq_true.1 rfl) hV (by omega) hlz ?_
 intro v1 w1 ho1 hg hat
 have hG:=Grew.of_append hg hat
 have hone:∀ k,v1.ownBlock=some k→(Value.slice A n c).ownBlock=some k∨w.heap.size≤k:=hG.2
 refine ⟨rfl,v1,fun k=>v1.ownBlock=some k∨O2 k,rfl,⟨q,ho1,fun k h=>.inl h,?_⟩,hG.1.mono fun k hk=>hRV k hk,fun k hk=>?_⟩
 ·have h1:TmS w (fun k=>(T k∨(O2 k∧k≠p))∧k<w.heap.size) q t:=ht.mono fun k h hz=>⟨h,hz⟩
  refine (h1.same fun k hk hz=>hG.1.block k hz fun e=>?_).mono fun k hk _=>hk.1.imp id fun h=>⟨.inr h.1,fun e=>?_⟩
  ·rcases hk.1 with h | h
   ·have:=own_base hV k e;have:=hTV k h;omega
   ·exact hV2 k e h.1
  ·rcases hone k e with e | e
   ·exact hV2 k e h.1
   ·omega
 ·rcases hk with hk | hk
  ·rcases hone k hk with e | e
   ·exact .inl (hRV k e)
   ·exact .inr ⟨e,own_lt ho1 k hk⟩
  ·exact .inl (hR2 k hk)
end
end Go.Proofs.Ytdboloabpjmgaaa

namespace Go.Proofs.Ytdboloabpjmgaaa
open Go.RowKit Go.Proofs.YtdboloabpjmgaaaW.PrintWords Go.RegionInvYtdboloabpjmgaaa Go.RegionEYtdboloabpjmgaaa
set_option linter.unusedVariables false

def md_ops:List Oper:=[
 { dst:=some 16,op:=Go.Op.fieldAddr 28 (Go.Operand.tmp 5) 5,type:=0,pos:= "term.go:131",after:=#[],guard:=none },
 { dst:=some 17,op:=Go.Op.load 26 (Go.Operand.tmp 16),type:=26,pos:= "term.go:131",after:=#[{ on:=0,ground:=Go.Ground.data }],guard:=none },
 { dst:=some 18,op:=Go.Op.load 28 (Go.Operand.tmp 7),type:=28,pos:= "term.go:131",after:=#[],guard:=none },
 { dst:=some 19,op:=Go.Op.call { callee:=Go.Callee.value (Go.Operand.func 56),args:=#[Go.Operand.tmp 18],argTypes:=#[28] },type:=28,pos:= "term.go:131",after:=#[{ on:=2,ground:=Go.Ground.data }],guard:=none },
 { dst:=some 20,op:=Go.Op.buildSlice 26 1 #[(0,Go.Operand.tmp 19)],type:=26,pos:= "term.go:131",after:=#[{ on:=3,ground:=Go.Ground.data }],guard:=none },
 { dst:=some 21,op:=Go.Op.call { callee:=Go.Callee.builtin Go.Builtin.append,args:=#[Go.Operand.tmp 17,Go.Operand.tmp 20],argTypes:=#[26,26] },type:=26,pos:= "term.go:131",after:=#[{ on:=1,ground:=Go.Ground.data },{ on:=4,ground:=Go.Ground.data },{ on:=3,ground:=Go.Ground.chain }],guard:=none },
 { dst:=some 22,op:=Go.Op.fieldAddr 28 (Go.Operand.tmp 5) 5,type:=0,pos:= "term.go:131",after:=#[{ on:=0,ground:=Go.Ground.phase },{ on:=1,ground:=Go.Ground.phase },{ on:=2,ground:=Go.Ground.phase },{ on:=3,ground:=Go.Ground.phase },{ on:=4,ground:=Go.Ground.phase },{ on:=5,ground:=Go.Ground.phase }],guard:=none },
 { dst:=none,op:=Go.Op.store 26 (Go.Operand.tmp 22) (Go.Operand.tmp 21),type:=0,pos:= "term.go:131",after:=#[{ on:=6,ground:=Go.Ground.data },{ on:=5,ground:=Go.Ground.data },{ on:=5,ground:=Go.Ground.chain },{ on:=0,ground:=Go.Ground.phase },{ on:=1,ground:=Go.Ground.phase },{ on:=2,ground:=Go.Ground.phase },{ on:=3,ground:=Go.Ground.phase },{ on:=4,ground:=Go.Ground.phase },{ on:=5,ground:=Go.Ground.phase }],guard:=none }]
def md_F (w0:World) (Ob Bx lo g0 n c:Nat) (A:Option Addr) (cells:List Value) (kk:Int) (q:Pl) (x:Tm):Nat→(Nat→Value)→Value→World→(Nat→Prop)→Prop:=fun rix=>match rix with
 | 0=>fun _ v _ _=>v=.pointer (some ⟨Ob,7,none⟩)
 | 1=>fun _ v _ _=>v=.slice A n c
 | 2=>fun _ v _ _=>v=tmV q x
 | 3=>fun τ v w O=>TmO (fun k=>k<g0) (ownT x) v w O
 | 4=>fun τ v w O=>TmLit (fun k=>k<g0) (ownT x) v w O
 | 5=>fun τ v w O=>RowT (fun k=>k<g0) lo n cells (ownT x) v w O
 | 6=>fun _ v _ _=>v=.pointer (some ⟨Ob,7,none⟩)
 | 7=>fun τ v w O=>w.heap[Ob]?=some (outK kk (τ 21))∧O Ob
 | _=>fun _ _ _ _=>True
def md_C:Nat→List Nat:=fun rix=>match rix with
 | 4=>[3]
 | 5=>[4]
 | _=>[]
theorem md_nw5:nwB md_ops.toArray 5=true:=by kernel_rfl
theorem md_nw7:nwB md_ops.toArray 7=true:=by kernel_rfl
set_option maxRecDepth 100000 in
set_option maxHeartbeats 8000000 in
theorem md_obs (w0:World) (Ob Bx lo g0 n c:Nat) (A:Option Addr) (cells:List Value) (kk:Int) (q:Pl) (x:Tm) (hO:w0.heap[Ob]?=some (outK kk (.slice A n c))) (hB:w0.heap[Bx]?=some (tmO q x)) (hin:TmIn w0 g0 q x) (hV:w0.ownsRow lo 28 8 (.slice A n c) n cells) (hn:n≤1000) (hlo:Ob<lo) (hlz:lo≤w0.heap.size) (hVB:(Value.slice A n c).ownBlock≠some Bx) (hBO:Bx≠Ob) (hg0:g0≤Ob) (Q:Exit→Act→World→Prop) (a0:Act) (hi5:a0.tmps.getD 5 undef=.pointer (some ⟨Ob,0,none⟩)) (hi7:a0.tmps.getD 7 undef=.pointer (some ⟨Bx,0,none⟩)) :
  ObsE Try.prog md_ops.toArray Q (est2 5 7 (fun k=>(Value.slice A n c).ownBlock=some k) (fun k=>k=Ob)) md_C (md_F w0 Ob Bx lo g0 n c A cells kk q x) a0 w0 md_ops.toArray.toList 0:=by
 have nw5:=md_nw5
 have nw7:=md_nw7
 refine ⟨?_,?_,?_,?_,?_,?_,?_,?_,trivial⟩
 ·refine ⟨⟨fun τ=>stableE_det _,leans_not⟩,?_⟩
  intro a w O hk
  have e5:a.eval (.tmp 5)=.pointer (some ⟨Ob,0,none⟩):=(hk.init 5 (initialB_of_nw nw5)).trans hi5
  exact obE_run (wanted_none rfl) (by unfold execOp;simp only [];rw [e5];go_simp) rfl
 ·refine ⟨⟨fun τ=>stableE_det _,leans_not⟩,?_⟩
  intro a w O hk
  have e16:a.eval (.tmp 16)=.pointer (some ⟨Ob,7,none⟩):=hk.fact 0 _ 16 rfl rfl rfl rfl
  have x7:=(hk.est 7 _ rfl (.inr rfl) Ob (.inr ⟨rfl,rfl⟩)).trans hO
  obtain ⟨p0,p1,p2,p3,p4,p5,p6,p7,-,-,-,-,-,-,-,-⟩:=row8c x7
  exact obE_run (wanted_none rfl) (by unfold execOp;simp only [];rw [e16];go_simp) rfl
 ·refine ⟨⟨fun τ=>stableE_det _,leans_not⟩,?_⟩
  intro a w O hk
  have e7:a.eval (.tmp 7)=.pointer (some ⟨Bx,0,none⟩):=(hk.init 7 (initialB_of_nw nw7)).trans hi7
  have xB:=(hk.fix Bx (est2_fix (blk_lt hB) (fun e=>hVB e) (fun e=>hBO e))).trans hB
  exact obE_loadRow rfl e7 xB Try.underlying28 rfl (by kernel_rfl) (wanted_none rfl) rfl
 ·refine ⟨⟨fun τ=>stableE_tm (fun k hk'=>est2_fix (by have hk':k<g0:=hk';omega) (fun e=>by have:=own_base hV k e;have hk':k<g0:=hk';omega) (fun e=>by have e:k=Ob:=e;have hk':k<g0:=hk';omega)),leans_not⟩,?_⟩
  intro a w O hk
  have e18:a.eval (.tmp 18)=tmV q x:=hk.fact 2 _ 18 rfl rfl rfl rfl
  have hsz:=hk.world.size
  exact obE_tmCall #[tmV q x] rfl rfl rfl rfl (by simp only [List.map_cons,List.map_nil];rw [e18];try rfl) (wanted_none rfl) ((town_calls g0 x q w (by omega) (hin.same fun k hk' _=>by have hk':k<g0:=hk';exact hk.fix k (est2_fix (by omega) (fun e=>by have:=own_base hV k e;omega) (fun e=>by have e:k=Ob:=e;omega)))).mono fun e w' ⟨q',h1,h2,h3⟩=>⟨q',h1,h2.mono fun k h hz=>h.elim (fun h=>.inl (.inl h)) .inr,h3⟩)
 ·refine ⟨⟨fun τ=>stableE_tmlit (fun k hk'=>est2_fix (by have hk':k<g0:=hk';omega) (fun e=>by have:=own_base hV k e;have hk':k<g0:=hk';omega) (fun e=>by have e:k=Ob:=e;have hk':k<g0:=hk';omega)),leans_not⟩,?_⟩
  intro a w O hk
  have f19:=hk.fact 3 _ 19 rfl rfl rfl rfl
  have g19:=hk.owns 3 rfl rfl
  have hsz:=hk.world.size
  exact obE_tmLit (x:=.tmp 19) (wanted_none rfl) (fun q' e19=>by unfold execOp;simp only [List.map_toArray,List.map_cons,List.map_nil];rw [e19];unfold tmV;go_simp;rfl) f19 (fun k h=>.inl ⟨3,by simp [md_C],h⟩) (fun k h=>((hk.owns 3 rfl rfl) k h).1) (fun k h=>by have h:k<g0:=h;omega)
 ·refine ⟨⟨fun τ=>stableE_rowv (fun k hk'=>est2_fix (by have hk':k<g0:=hk';omega) (fun e=>by have:=own_base hV k e;have hk':k<g0:=hk';omega) (fun e=>by have e:k=Ob:=e;have hk':k<g0:=hk';omega)),leans_not⟩,?_⟩
  intro a w O hk
  have e17:a.eval (.tmp 17)=.slice A n c:=hk.fact 1 _ 17 rfl rfl rfl rfl
  have f20:=hk.fact 4 _ 20 rfl rfl rfl rfl
  have g20:=hk.owns 4 rfl rfl
  have ow:=ownsRow_same hV (fun k hk'=>hk.est 5 _ rfl (.inl rfl) k (.inl ⟨rfl,hk'⟩))
  have hsz:=hk.world.size
  exact obE_tmPush (x:=.tmp 17) (y:=.tmp 20) (ty:=26) rfl rfl (wanted_none rfl) e17 ow (fun k h=>.inr (.inl ⟨rfl,h⟩)) (by omega) (by omega) f20 (fun k h=>.inl ⟨4,by simp [md_C],h⟩) (fun k h=>((hk.owns 4 rfl rfl) k h).1) (fun k h h2=>hk.away 5 4 _ rfl (.inl rfl) rfl rfl k (.inl ⟨rfl,h⟩) h2) (fun k h=>by have h:k<g0:=h;omega)
 ·refine ⟨⟨fun τ=>stableE_det _,leans_not⟩,?_⟩
  intro a w O hk
  have e5:a.eval (.tmp 5)=.pointer (some ⟨Ob,0,none⟩):=(hk.init 5 (initialB_of_nw nw5)).trans hi5
  exact obE_run (wanted_none rfl) (by unfold execOp;simp only [];rw [e5];go_simp) rfl
 ·refine ⟨⟨fun τ=>(fun v w w' O h hz hk=>⟨(hk Ob (blk_lt h.1) (.inr h.2)).trans h.1,h.2⟩),fun τ τ' h=>by have e:τ' 21=τ 21:=h 5 _ 21 rfl rfl rfl;show (fun (v:Value) (w:World) (O:Nat→Prop)=>w.heap[Ob]?=some (outK kk (τ 21))∧O Ob)=(fun (v:Value) (w:World) (O:Nat→Prop)=>w.heap[Ob]?=some (outK kk (τ' 21))∧O Ob);rw [e]⟩,?_⟩
  intro a w O hk
  have e22:a.eval (.tmp 22)=.pointer (some ⟨Ob,7,none⟩):=hk.fact 6 _ 22 rfl rfl rfl rfl
  have f21:=hk.fact 5 _ 21 rfl rfl rfl rfl
  have g21:=hk.owns 5 rfl rfl
  obtain ⟨q8,hs9,-,-⟩:=f21
  obtain ⟨A3,c3,q33⟩:=own_slice hs9
  have e21:a.eval (.tmp 21)=.slice A3 (n+1) c3:=q33
  have x7:=(hk.est 7 _ rfl (.inl rfl) Ob (.inr ⟨rfl,rfl⟩)).trans hO
  obtain ⟨p0,p1,p2,p3,p4,p5,p6,p7,k0,k1,k2,k3,k4,k5,k6,k7⟩:=row8c x7
  refine obE_store (w':=w.setCell ⟨Ob,7,none⟩ (.slice A3 (n+1) c3)) (fun k=>k=Ob) (wanted_none rfl) (by unfold execOp;simp only [];rw [e22,e21];go_simp) ((chg_set w Ob 7 _).mono fun k h=>.inr (.inr ⟨rfl,h⟩)) ⟨?_,rfl⟩ (fun k h=>.inl (.inr (.inr ⟨rfl,h⟩)))
  show _=some (outK kk (a.tmps.getD 21 undef))
  rw [q33]
  exact blk_put x7 7 _ rfl
set_option maxRecDepth 100000 in
set_option maxHeartbeats 8000000 in
theorem md_region {Q:Exit→Act→World→Prop} {id:Nat} (w0:World) (Ob Bx lo g0 n c:Nat) (A:Option Addr) (cells:List Value) (kk:Int) (q:Pl) (x:Tm) {s0 s1 s2 s3 s4 s6 s8 s9 s10 s11 s12 s13 s14 s15 s16 s17 s18 s19 s20 s21 s22 s23 s24:Value} (hO:w0.heap[Ob]?=some (outK kk (.slice A n c))) (hB:w0.heap[Bx]?=some (tmO q x)) (hin:TmIn w0 g0 q x) (hV:w0.ownsRow lo 28 8 (.slice A n c) n cells) (hn:n≤1000) (hlo:Ob<lo) (hlz:lo≤w0.heap.size) (hVB:(Value.slice A n c).ownBlock≠some Bx) (hBO:Bx≠Ob) (hg0:g0≤Ob)
  (hend:∀ (w':World) (u19:Value) (u20:Value) (u21:Value) (O5:Nat→Prop) (v7:Value) (O7:Nat→Prop),Chg (fun k=>(fun k=>(Value.slice A n c).ownBlock=some k) k∨(fun k=>k=Ob) k) w0 w'→(RowT (fun k=>k<g0) lo n cells (ownT x) u21 w' O5)→(∀ k,O5 k→k<w'.heap.size∧¬ Fix w0 (est2 5 7 (fun k=>(Value.slice A n c).ownBlock=some k) (fun k=>k=Ob)) k)→(w'.heap[Ob]?=some (outK kk (u21))∧O7 Ob)→(∀ k,O7 k→k<w'.heap.size∧¬ Fix w0 (est2 5 7 (fun k=>(Value.slice A n c).ownBlock=some k) (fun k=>k=Ob)) k)→(∀ k,O5 k→¬ O7 k)→Q .normal { tmps:=(s0 :: s1 :: s2 :: s3 :: s4 :: (.pointer (some ⟨Ob,0,none⟩)) :: s6 :: (.pointer (some ⟨Bx,0,none⟩)) :: s8 :: s9 :: s10 :: s11 :: s12 :: s13 :: s14 :: s15 :: (.pointer (some ⟨Ob,7,none⟩)) :: (.slice A n c) :: (tmV q x) :: u19 :: u20 :: u21 :: (.pointer (some ⟨Ob,7,none⟩)) :: s23 :: s24 :: []:List Value).toArray,defers:=[] } w') :
  (Code.region id md_ops.toArray true).wp Try.prog Q { tmps:=(s0 :: s1 :: s2 :: s3 :: s4 :: (.pointer (some ⟨Ob,0,none⟩)) :: s6 :: (.pointer (some ⟨Bx,0,none⟩)) :: s8 :: s9 :: s10 :: s11 :: s12 :: s13 :: s14 :: s15 :: s16 :: s17 :: s18 :: s19 :: s20 :: s21 :: s22 :: s23 :: s24 :: []:List Value).toArray,defers:=[] } w0:=by
 refine wp_region_est (by kernel_rfl) (est2 5 7 (fun k=>(Value.slice A n c).ownBlock=some k) (fun k=>k=Ob)) md_C (md_F w0 Ob Bx lo g0 n c A cells kk q x) (est2_dis (fun k h h2=>by have:=own_base hV k h;have h2:k=Ob:=h2;omega)) (est2_range (fun k hk=>own_lt hV k hk) (fun k hk=>hk ▸ blk_lt hO)) (by rfl) (by kernel_rfl) (md_obs w0.drew Ob Bx lo g0 n c A cells kk q x hO hB (TmS.same hin (fun _ _ _=>rfl)) hV hn hlo hlz hVB hBO hg0 _ _ rfl rfl) ?_
 intro a w' O hd hs hb hf hf2 ha hsame
 have hl:=slots_eq (ops:=md_ops.toArray) [(16,.pointer (some ⟨Ob,7,none⟩)),(17,.slice A n c),(18,tmV q x),(19,a.tmps.getD 19 undef),(20,a.tmps.getD 20 undef),(21,a.tmps.getD 21 undef),(22,.pointer (some ⟨Ob,7,none⟩))] (show a.tmps.size=25 from hs) (fun i h=>hsame i h) ⟨(hf 0 _ 16 rfl rfl (by decide)).1,(hf 1 _ 17 rfl rfl (by decide)).1,(hf 2 _ 18 rfl rfl (by decide)).1,rfl,rfl,rfl,(hf 6 _ 22 rfl rfl (by decide)).1,trivial⟩ (by kernel_rfl)
 obtain ⟨tmps,defers⟩:=a
 obtain rfl:defers=[]:=hd
 have hl':tmps=_:=hl
 rw [hl']
 obtain ⟨⟨v7,hv7⟩,ho7⟩:=hf2 7 _ rfl rfl (by decide)
 have hb':=est2_chg hb
 refine Eq.mp ?_ (hend w' (tmps.getD 19 undef) (tmps.getD 20 undef) (tmps.getD 21 undef) (O 5) v7 (O 7) ⟨hb'.os,hb'.tape,hb'.output,hb'.size,hb'.block⟩ (hf 5 _ 21 rfl rfl (by decide)).1 (hf 5 _ 21 rfl rfl (by decide)).2 hv7 ho7 (ha 5 7 (by decide) (by decide) (by decide) (by decide) (by decide)))
 kernel_rfl

end Go.Proofs.Ytdboloabpjmgaaa

namespace Go.Proofs.Ytdboloabpjmgaaa
open Go.RowKit Go.Proofs.YtdboloabpjmgaaaW.PrintWords Go.RegionInvYtdboloabpjmgaaa Go.RegionEYtdboloabpjmgaaa

def madeT (kk:Int) (xs:List Tm):Tm:=.mk kk 0 noName lv0 [] (xs.map ownT)
def TmsAt (w:World) (g0:Nat) (L:Option Addr) (q:Nat→Pl) (xs:List Tm):Prop:=∀ (i:Nat) (x:Tm),xs[i]?=some x→KidAt w (fun k=>k<w.heap.size) L i (q i) x∧TmIn w g0 (q i) x
theorem TmsAt.stay {w w':World} {g0:Nat} {L:Option Addr} {q:Nat→Pl} {xs:List Tm} (h:TmsAt w g0 L q xs) (hb:Below w.heap.size w w') (hg:g0≤w.heap.size):TmsAt w' g0 L q xs:=
 fun i x hx=>⟨((h i x hx).1.same fun k hk _=>hb.block k hk).mono fun k _ hz=>hz,(h i x hx).2.stay (hb.mono hg)⟩
set_option maxRecDepth 100000 in
set_option maxHeartbeats 16000000 in
theorem made_calls (g0:Nat) (kk:Int) (L:Option Addr) (n c:Nat) (q:Nat→Pl) (xs:List Tm) (w:World) (hg0:g0≤w.heap.size) (hn:n=xs.length) (hn9:n≤100) (hin:TmsAt w g0 L q xs) :
  Calls Try.prog 73 #[.int .i64 kk,.slice L n c] w (TmGot w (fun k=>k<g0) (madeT kk xs)):=by
 have HIN:=Ak hin
 have HN:=Ak hn
 obtain ⟨W,hW⟩:∃ W,W=(w.alloc (outK 0 (.slice none 0 0))).alloc (outK kk (.slice none 0 0)):=⟨_,rfl⟩
 have HB:=Ak (show Below w.heap.size w W by rw [hW];exact below_alloc (below_alloc (Below.refl _ _) _) _)
 have HX:=Ak (show W.heap[w.heap.size]?=some (outK 0 (.slice none 0 0)) by rw [hW];exact box0 w _ _)
 have HX1:=Ak (show W.heap[w.heap.size+1]?=some (outK kk (.slice none 0 0)) by rw [hW];exact box1 w _ _)
 have HZ:=Ak (show W.heap.size=w.heap.size+1+1 by rw [hW];simp)
 obtain ⟨y,hy⟩:∃ y,y=madeT kk xs:=⟨_,rfl⟩
 have HY:=Ak hy
 rw [← hy]
 clear hin hn hy
 go_enter Try.func73,Try.ntmps73
 go_upto_region 2 with (fail)
 rw [← hW]
 clear hW
 go_wp2
 go_loopw [12] (fun i wr=>∃ (k:Nat) (V:Value),i=.int .i64 k∧k≤n∧Aside0 (wr.heap[w.heap.size+1]?=some (outK kk V))∧Aside0 (wr.heap[w.heap.size]?=some (outK 0 (.slice none 0 0)))∧Aside0 (KidsT wr (fun k=>k<g0) (w.heap.size+1+1) V ((xs.take k).map ownT))∧Aside0 (Below w.heap.size w wr)∧w.heap.size+1+1≤wr.heap.size) (fun i _=>n - (intOf i).toNat)
 case atStart=>exact ⟨0,.slice none 0 0,rfl,Nat.zero_le _,HX1,HX,⟨KidsT.nil _ _ _⟩,HB,by have:=HZ.out;omega⟩
 case round =>
  clear HB HX HX1 HZ
  obtain ⟨k,V,rfl,hk,HO,HX,HK,HB,hzw⟩:=hrel
  by_cases hlt:k<n
  ·have hlt2:k<xs.length:=by rw [← HN.out];exact hlt
   obtain ⟨x,hx⟩:∃ x,xs[k]?=some x:=⟨_,List.getElem?_eq_getElem hlt2⟩
   have HTK:=Ak (show (xs.take (k+1)).map ownT=(xs.take k).map ownT ++ [ownT x] by rw [List.take_add_one,hx,List.map_append];rfl)
   have HTL:=Ak (show ((xs.take k).map ownT).length=k by rw [List.length_map,List.length_take];omega)
   obtain ⟨⟨bk,oo,hL,hSb,hcells⟩,hxin⟩:=HIN.out k x hx
   have hbk:∀ j v,(tmC (q k) x)[j]?=some v→wr.cell? ⟨bk,oo+k * 8+j,none⟩=some v:=fun j v hv=>(cell_same (HB.out.block bk hSb)).trans (hcells j v hv)
   have d0:=hbk 0 _ rfl
   have d1:=hbk 1 _ rfl
   have d2:=hbk 2 _ rfl
   have d3:=hbk 3 _ rfl
   have d4:=hbk 4 _ rfl
   have d5:=hbk 5 _ rfl
   have d6:=hbk 6 _ rfl
   have d7:=hbk 7 _ rfl
   rw [Nat.add_zero] at d0
   have HLL:=Ak hL
   have HXIN:=Ak (TmIn.stay hxin (HB.out.mono hg0))
   rw [hL]
   clear hL hcells hbk hx hlt2 hxin
   go_upto_region 5 with (fail)
   obtain ⟨W5,hW5⟩:∃ W5,W5=wr.alloc (tmO (q k) x):=⟨_,rfl⟩
   have hB5:Below wr.heap.size wr W5:=by rw [hW5];exact below_alloc (Below.refl _ _) _
   have HBX5:=Ak (show W5.heap[wr.heap.size]?=some (tmO (q k) x) by rw [hW5];exact blk_new _ _)
   have HO5:=Ak ((hB5.block _ (by omega)).trans HO.out)
   have HX5:=Ak ((hB5.block _ (by omega)).trans HX.out)
   have HIN5:=Ak (TmIn.stay HXIN.out (hB5.mono (by omega)))
   have HBW5:=Ak (below_then HB.out HB.out.size hB5)
   obtain ⟨cells,qq,hown,hkids⟩:=HK.out.later hB5
   rw [HTL.out] at hown
   obtain ⟨A9,c9,rfl⟩:=own_slice hown
   have hVB:(Value.slice A9 k c9).ownBlock≠some wr.heap.size:=by
    obtain ⟨cells2,_,hown2,_⟩:=HK.out
    intro e
    have:=own_lt hown2 _ e
    omega
   have hz5:wr.heap.size<W5.heap.size:=blk_lt HBX5.out
   have HOWN:=Ak hown
   have HKID:=Ak hkids
   clear hB5 hown hkids
   unfold tmO at hW5
   rw [← hW5]
   clear hW5 HO HX HK
   refine md_region W5 (w.heap.size+1) wr.heap.size (w.heap.size+1+1) g0 k c9 A9 cells kk (q k) x HO5.out HBX5.out HIN5.out HOWN.out (by omega) (by omega) (by omega) hVB (by omega) (by omega) ?_
   intro w' u19 u20 u21 O5 v7 O7 hch h5 hO5 h7 _ hap
   have hfin:=reb_round HTL.out HKID.out HOWN.out hch h5 hO5 (fun h=>hap _ h h7.2) (by omega) (by omega) (by omega) (fun _ h=>h)
   rw [← HTK.out] at hfin
   have HK6:=Ak hfin
   have HO6:=Ak h7.1
   have HX6:=Ak ((hch.block _ (by omega) (fun e=>e.elim (fun e=>by have:=own_base HOWN.out _ e;omega) (fun e=>by have e:w.heap.size=w.heap.size+1:=e;omega))).trans HX5.out)
   have HB6:=Ak (show Below w.heap.size w w' from Below.trans HBW5.out (hch.below (fun k e=>e.elim (fun e=>by have:=own_base HOWN.out _ e;omega) (fun e=>by have e:k=w.heap.size+1:=e;omega)) HBW5.out.size))
   have hz6:=hch.size
   clear hch h5 hO5 h7 hap hfin
   go_wp2
   go_roundw
   case rel=>exact ⟨k+1,_,by go_num,by omega,HO6,HX6,HK6,HB6,by omega⟩
   case measure=>(simp [intOf];try omega)
  ·obtain rfl:k=n:=by omega
   have hlt':decide ((k:Int)<k)=false:=by simp
   have hfull:xs.take k=xs:=List.take_of_length_le (by rw [HN.out];exact Nat.le_refl _)
   rw [hfull] at HK
   obtain ⟨K9,e9,hV9,hterm⟩:=HK.out.term
   obtain ⟨m9,hm9⟩:∃ m,(xs.map ownT).length=m:=⟨_,rfl⟩
   rw [hm9] at hV9
   subst hV9
   have HTM:=Ak (hterm kk 0 noName ⟨by decide,by decide,by simp⟩)
   obtain ⟨o0,o1,o2,o3,o4,o5,o6,o7,-,-,-,-,-,-,-,-⟩:=row8c HO.out
   obtain ⟨r0,r1,r2,r3,r4,r5,r6,r7,f0,f1,f2,f3,f4,f5,f6,f7⟩:=row8c HX.out
   have HM9:=Ak hm9
   have hzr:w.heap.size<wr.heap.size:=by omega
   clear hterm hm9 hfull
   go_wp2
   refine bodyPost_ret (results_c rfl _ _ (w.heap.size) 28 #[.int .i64 kk,.int .i64 0,.string ⟨#[]⟩,.int .i64 0,.int .i64 0,.slice none 0 0,.slice none 0 0,.slice K9 m9 e9] (0,0) _ rfl (set8 HX.out) Try.underlying28 rfl (by kernel_rfl)) rfl ?_
   have hv:(Value.agg #[.int .i64 kk,.int .i64 0,.string ⟨#[]⟩,.int .i64 0,.int .i64 0,.slice none 0 0,.slice none 0 0,.slice K9 m9 e9])=tmV ⟨none,0,none,0,K9,e9⟩ (madeT kk xs):=by unfold tmV madeT;rw [← HM9.out];rfl
   rw [hv,HY.out]
   exact tm_ret (g:=w.heap.size) HTM.out (chg_set8 wr (w.heap.size) (.int .i64 kk) (.int .i64 0) (.string ⟨#[]⟩) (.int .i64 0) (.int .i64 0) (.slice none 0 0) (.slice none 0 0) (.slice K9 m9 e9)) hg0 (Nat.le_refl _) (by omega) HB.out

theorem row_at {w:World} {g j:Nat} {cs:List Value} {t:TypeId} (k:Nat) (h:w.heap[g]?=some (.cells cs.toArray t (0,0))) (_:j<8) (_:k+j<cs.length):w.cell? ⟨g,k+j,none⟩=cs[k+j]?:=by
 rw [cell_of_row _ _ _ _ _ _ h,List.getElem?_toArray]
theorem lam_row {w:World} {g:Nat} {pa:Pl} {a:Tm} {pb:Pl} {b:Tm} {g0:Nat} (h:w.heap[g]?=some (.cells (tmC pa a ++ tmC pb b).toArray 28 (0,0))) (ha:TmIn w g0 pa a) (hb:TmIn w g0 pb b):TmsAt w g0 (some ⟨g,0,none⟩) (fun i=>if i=0 then pa else pb) [a,b]:=by
 have hg:=blk_lt h
 intro i x hx

 by_cases h0:i=0
 ·subst h0
  obtain rfl:a=x:=by simpa using hx
  refine ⟨⟨g,0,rfl,hg,fun j v hv=>?_⟩,ha⟩
  have hj:j<8:=by have:=(List.getElem?_eq_some_iff.1 hv).1;rwa [tmC_len] at this
  have e:=row_at 0 h hj (by simp only [List.length_append,tmC_len];omega)
  rw [show 0+0 * 8+j=0+j by omega,e]
  have e2:(tmC pa a ++ tmC pb b)[0+j]?=(tmC pa a)[j]?:=by
   rw [List.getElem?_append_left (by rw [tmC_len];omega),Nat.zero_add]
  exact e2.trans hv
 by_cases h1:i=1
 ·subst h1
  obtain rfl:b=x:=by simpa using hx
  refine ⟨⟨g,0,rfl,hg,fun j v hv=>?_⟩,hb⟩
  have hj:j<8:=by have:=(List.getElem?_eq_some_iff.1 hv).1;rwa [tmC_len] at this
  have e:=row_at 8 h hj (by simp only [List.length_append,tmC_len];omega)
  rw [show 0+1 * 8+j=8+j by omega,e]
  have e2:(tmC pa a ++ tmC pb b)[8+j]?=(tmC pb b)[j]?:=by
   rw [List.getElem?_append_right (by rw [tmC_len];omega),tmC_len,Nat.add_sub_cancel_left]
  exact e2.trans hv
 exfalso
 have:=(List.getElem?_eq_some_iff.1 hx).1
 simp only [List.length_cons,List.length_nil] at this
 omega

set_option maxRecDepth 100000 in
set_option maxHeartbeats 8000000 in
theorem lam_calls (g0:Nat) (pa:Pl) (a:Tm) (pb:Pl) (b:Tm) (w:World) (hg0:g0≤w.heap.size) (ha:TmIn w g0 pa a) (hb:TmIn w g0 pb b) :
  Calls Try.prog 31 #[tmV pa a,tmV pb b] w (TmGot w (fun k=>k<g0) (madeT 4 [a,b])):=by
 obtain ⟨W,hW⟩:∃ W,W=(((w.alloc (tmO pa a)).alloc (tmO pb b)).alloc (outK 0 (.slice none 0 0))).alloc (.cells (tmC pa a ++ tmC pb b).toArray 28 (0,0)):=⟨_,rfl⟩
 have hbW:Below w.heap.size w W:=by rw [hW];exact below_alloc (below_alloc (below_alloc (below_alloc (Below.refl _ _) _) _) _) _
 have hXR:W.heap[w.heap.size+1+1]?=some (outK 0 (.slice none 0 0)):=by
  rw [hW]
  refine blk_alloc ?_ _
  have:=blk_new ((w.alloc (tmO pa a)).alloc (tmO pb b)) (outK 0 (.slice none 0 0))
  simpa using this
 have hXS:W.heap[w.heap.size+1+1+1]?=some (.cells (tmC pa a ++ tmC pb b).toArray 28 (0,0)):=by
  rw [hW]
  have:=blk_new (((w.alloc (tmO pa a)).alloc (tmO pb b)).alloc (outK 0 (.slice none 0 0))) (.cells (tmC pa a ++ tmC pb b).toArray 28 (0,0))
  simpa using this
 have HXR:=Ak hXR
 have HB:=Ak hbW
 have HZ:=Ak (blk_lt hXS)
 have HIN:=Ak (lam_row (g0:=g0) hXS (TmIn.stay ha (hbW.mono hg0)) (TmIn.stay hb (hbW.mono hg0)))
 have HM:=Ak (show ∀ (kk:Int),Calls Try.prog 73 #[.int .i64 kk,.slice (some ⟨w.heap.size+1+1+1,0,none⟩) 2 2] W (TmGot W (fun k=>k<g0) (madeT kk [a,b])) from fun kk=>made_calls g0 kk _ 2 2 _ [a,b] W (Nat.le_trans hg0 hbW.size) rfl (by decide) HIN.out)
 obtain ⟨y,hy⟩:∃ y,y=madeT 4 [a,b]:=⟨_,rfl⟩
 have HY:=Ak hy
 rw [← hy]
 clear hbW hXR hXS hy ha hb
 unfold tmV
 unfold tmO at hW
 have hW':W=_:=hW
 simp only [tmC,List.cons_append,List.nil_append] at hW'
 go_enter Try.func31,Try.ntmps31
 go_wp2_with (go_at_call 73;go_must (rw [← hW'];clear hW hW';refine (HM.out 4).mono ?_;rw [← HY.out];rintro e w3 ⟨q9,rfl,ht9,hb3⟩;have HT9:=Ak ht9;have hX13:=(hb3.block _ (blk_lt HXR.out)).trans HXR.out;have HX13:=Ak hX13;have HB3:=Ak (below_then HB.out HB.out.size hb3);obtain ⟨r0,r1,r2,r3,r4,r5,r6,r7,f0,f1,f2,f3,f4,f5,f6,f7⟩:=row8c hX13;clear ht9 hb3 hX13;unfold tmV))
 refine bodyPost_ret (results_c rfl _ _ (w.heap.size+1+1) 28 #[.int .i64 y.kind,.int .i64 y.num,.string y.name,.int .i64 y.lv.kind,.int .i64 y.lv.num,.slice q9.A y.lv.kids.length q9.c,.slice q9.B y.ls.length q9.d,.slice q9.K y.kids.length q9.e] (0,0) _ rfl (set8 HX13.out) Try.underlying28 rfl (by kernel_rfl)) rfl ?_
 exact tm_ret (g:=w.heap.size+1+1) HT9.out (chg_set8 w3 (w.heap.size+1+1) (.int .i64 y.kind) (.int .i64 y.num) (.string y.name) (.int .i64 y.lv.kind) (.int .i64 y.lv.num) (.slice q9.A y.lv.kids.length q9.c) (.slice q9.B y.ls.length q9.d) (.slice q9.K y.kids.length q9.e)) hg0 (by omega) (by have:=HZ.out;omega) HB3.out

end Go.Proofs.Ytdboloabpjmgaaa

namespace Go.Proofs.Ytdboloabpjmgaaa
open Go.RowKit Go.Proofs.YtdboloabpjmgaaaW.PrintWords Go.RegionInvYtdboloabpjmgaaa Go.RegionEYtdboloabpjmgaaa

theorem TmS.pair {w:World} {S:Nat→Prop} {g:Nat} {pa pu:Pl} {a u:Tm} (h:w.heap[g]?=some (.cells (tmC pa a ++ tmC pu u).toArray 28 (0,0))) (hg:S g) (ha:TmS w S pa a) (hu:TmS w S pu u) (kk:Int) :
  TmS w S ⟨none,0,none,0,some ⟨g,0,none⟩,2⟩ (.mk kk 0 noName lv0 [] [a,u]):=by
 have hr:=lam_row (g0:=w.heap.size) h (TmS.all ha) (TmS.all hu)
 refine .mk (fun i=>if i=0 then pa else pu) (LvS.leaf _ _ _ _) (LvS.leaf _ _ _ _) (Nat.le_refl _) (show (2:Nat)≤9223372036854775807 by decide) ⟨by decide,by decide,by simp⟩ (fun i x hx=>?_) (fun i x hx=>?_)
 ·obtain ⟨b,o,e,-,hc⟩:=(hr i x hx).1
  have e2:=e
  injection e2 with e2
  injection e2 with e2
  subst e2
  exact ⟨g,o,e,hg,hc⟩
 ·by_cases h0:i=0
  ·subst h0
   obtain rfl:a=x:=by simpa using hx
   exact ha
  ·by_cases h1:i=1
   ·subst h1
    obtain rfl:u=x:=by simpa using hx
    exact hu
   ·exfalso
    have:=(List.getElem?_eq_some_iff.1 hx).1
    simp only [List.length_cons,List.length_nil] at this
    omega
def appT (f x:Tm):Tm:=.mk 6 0 noName lv0 [] [f,x]
def appsP (f:Tm) (xs:List Tm):Tm:=xs.foldl appT f
theorem appsP_snoc (f:Tm) (xs:List Tm) (x:Tm):appsP f (xs ++ [x])=appT (appsP f xs) x:=by unfold appsP;rw [List.foldl_append];rfl
def AppsT (f:Tm) (xs:List Tm):Tm:=if okT (appsP f xs) then ownT (appsP f xs) else zeroT
theorem AppsT_ok {f:Tm} {xs:List Tm} (h:okT (appsP f xs)):AppsT f xs=ownT (appsP f xs):=if_pos h
theorem AppsT_no {f:Tm} {xs:List Tm} (h:¬ okT (appsP f xs)):AppsT f xs=zeroT:=if_neg h
set_option maxRecDepth 100000 in
set_option maxHeartbeats 4000000 in
theorem Apps_calls (g0:Nat) (f:Tm) (pf:Pl) (L:Option Addr) (n c:Nat) (q:Nat→Pl) (xs:List Tm) (w:World) (hg0:g0≤w.heap.size) (hn:n=xs.length) (hn9:n≤140737488355328) (hf:TmIn w g0 pf f) (hin:TmsAt w g0 L q xs) :
  Calls Try.prog 16 #[tmV pf f,.slice L n c] w (TmGot w (fun k=>k<g0) (AppsT f xs)):=by
 have HIN:=Ak hin
 have HN:=Ak hn
 obtain ⟨W,hW⟩:∃ W,W=(w.alloc (tmO pf f)).alloc (outK 0 (.slice none 0 0)):=⟨_,rfl⟩
 have HB:=Ak (show Below w.heap.size w W by rw [hW];exact below_alloc (below_alloc (Below.refl _ _) _) _)
 have HO:=Ak (show W.heap[w.heap.size]?=some (tmO pf f) by rw [hW];exact box0 w _ _)
 have HX:=Ak (show W.heap[w.heap.size+1]?=some (outK 0 (.slice none 0 0)) by rw [hW];exact box1 w _ _)
 have HZ:=Ak (show W.heap.size=w.heap.size+1+1 by rw [hW];simp)
 have HF:=Ak (show TmS W (fun k=>k<g0∨w.heap.size+1+1≤k) pf f from TmS.mono (TmIn.stay hf (HB.out.mono hg0)) fun k h _=>.inl h)
 obtain ⟨y,hy⟩:∃ y,y=AppsT f xs:=⟨_,rfl⟩
 have HY:=Ak hy
 rw [← hy]
 clear hin hn hy hf
 unfold tmV
 unfold tmO at hW
 go_enter Try.func16,Try.ntmps16
 go_upto_region 1 with (fail)
 rw [← hW]
 clear hW
 go_wp2
 go_loopw [9] (fun i wr=>∃ (k:Nat) (p:Pl),i=.int .i64 k∧k≤n∧Aside0 (wr.heap[w.heap.size]?=some (tmO p (appsP f (xs.take k))))∧Aside0 (wr.heap[w.heap.size+1]?=some (outK 0 (.slice none 0 0)))∧Aside0 (TmS wr (fun k=>k<g0∨w.heap.size+1+1≤k) p (appsP f (xs.take k)))∧Aside0 (Below w.heap.size w wr)∧w.heap.size+1+1≤wr.heap.size) (fun i _=>n - (intOf i).toNat)
 case atStart=>exact ⟨0,pf,rfl,Nat.zero_le _,HO,HX,HF,HB,by have:=HZ.out;omega⟩
 case round =>
  clear HB HX HO HF HZ
  obtain ⟨k,p,rfl,hk,HO,HX,HF,HB,hzw⟩:=hrel
  by_cases hlt:k<n
  ·have hlt2:k<xs.length:=by rw [← HN.out];exact hlt
   obtain ⟨x,hx⟩:∃ x,xs[k]?=some x:=⟨_,List.getElem?_eq_getElem hlt2⟩
   have HTK:=Ak (show appsP f (xs.take (k+1))=appT (appsP f (xs.take k)) x by rw [List.take_add_one,hx,← appsP_snoc];rfl)
   obtain ⟨z,hz⟩:∃ z,z=appsP f (xs.take k):=⟨_,rfl⟩
   rw [← hz] at HTK HO HF
   obtain ⟨⟨bk,oo,hL,hSb,hcells⟩,hxin⟩:=HIN.out k x hx
   have hbk:∀ j v,(tmC (q k) x)[j]?=some v→wr.cell? ⟨bk,oo+k * 8+j,none⟩=some v:=fun j v hv=>(cell_same (HB.out.block bk hSb)).trans (hcells j v hv)
   have d0:=hbk 0 _ rfl
   have d1:=hbk 1 _ rfl
   have d2:=hbk 2 _ rfl
   have d3:=hbk 3 _ rfl
   have d4:=hbk 4 _ rfl
   have d5:=hbk 5 _ rfl
   have d6:=hbk 6 _ rfl
   have d7:=hbk 7 _ rfl
   rw [Nat.add_zero] at d0
   have HLL:=Ak hL
   have HXIN:=Ak (TmIn.stay hxin (HB.out.mono hg0))
   rw [hL]
   clear hL hcells hbk hx hlt2 hxin hz
   go_upto_region 4 with (fail)
   obtain ⟨W5,hW5⟩:∃ W5,W5=wr.alloc (tmO (q k) x):=⟨_,rfl⟩
   have hB5:Below wr.heap.size wr W5:=by rw [hW5];exact below_alloc (Below.refl _ _) _
   have HBX5:=Ak (show W5.heap[wr.heap.size]?=some (tmO (q k) x) by rw [hW5];exact blk_new _ _)
   have HO5:=Ak ((hB5.block _ (by omega)).trans HO.out)
   have HX5:=Ak ((hB5.block _ (by omega)).trans HX.out)
   have HIN5:=Ak (TmIn.stay HXIN.out (hB5.mono (by omega)))
   have HF5:=Ak (HF.out.later hB5)
   have HBW5:=Ak (below_then HB.out HB.out.size hB5)
   have hz5:wr.heap.size<W5.heap.size:=blk_lt HBX5.out
   clear hB5
   unfold tmO at hW5
   rw [← hW5]
   clear hW5 HO HX HF d0 d1 d2 d3 d4 d5 d6 d7
   obtain ⟨o0,o1,o2,o3,o4,o5,o6,o7,f0,f1,f2,f3,f4,f5,f6,f7⟩:=row8c HO5.out
   obtain ⟨b0,b1,b2,b3,b4,b5,b6,b7⟩:=row8 HBX5.out
   have hzw5:w.heap.size<W5.heap.size:=by omega
   go_wp2
   go_roundw
   case rel =>
    clear o0 o1 o2 o3 o4 o5 o6 o7 f0 f1 f2 f3 f4 f5 f6 f7 b0 b1 b2 b3 b4 b5 b6 b7
    have hch:=chg_set8 W5 (w.heap.size) (.int .i64 6) (.int .i64 0) (.string ⟨#[]⟩) (.int .i64 0) (.int .i64 0) (.slice none 0 0) (.slice none 0 0) (.slice (some ⟨W5.heap.size,0,none⟩) 2 2)
    have hs8:=set8 (a0:=.int .i64 6) (a1:=.int .i64 0) (a2:=.string ⟨#[]⟩) (a3:=.int .i64 0) (a4:=.int .i64 0) (a5:=.slice none 0 0) (a6:=.slice none 0 0) (a7:=.slice (some ⟨W5.heap.size,0,none⟩) 2 2) HO5.out
    obtain ⟨WS,hWS⟩:∃ WS,WS=((((((((W5.setCell ⟨w.heap.size,0,none⟩ (.int .i64 6)).setCell ⟨w.heap.size,1,none⟩ (.int .i64 0)).setCell ⟨w.heap.size,2,none⟩ (.string ⟨#[]⟩)).setCell ⟨w.heap.size,3,none⟩ (.int .i64 0)).setCell ⟨w.heap.size,4,none⟩ (.int .i64 0)).setCell ⟨w.heap.size,5,none⟩ (.slice none 0 0)).setCell ⟨w.heap.size,6,none⟩ (.slice none 0 0)).setCell ⟨w.heap.size,7,none⟩ (.slice (some ⟨W5.heap.size,0,none⟩) 2 2)):=⟨_,rfl⟩
    have hsz:WS.heap.size=W5.heap.size:=by rw [hWS];simp
    rw [← hWS] at hch hs8 ⊢
    clear hWS
    obtain ⟨W9,hW9⟩:∃ W9,W9=WS.alloc (.cells (tmC p z ++ tmC (q k) x).toArray 28 (0,0)):=⟨_,rfl⟩
    have hW9':W9=_:=hW9
    simp only [tmC,List.cons_append,List.nil_append] at hW9'
    rw [← hW9']
    have hb9:Below WS.heap.size WS W9:=by rw [hW9];exact below_alloc (Below.refl _ _) _
    have hR9:W9.heap[W5.heap.size]?=some (.cells (tmC p z ++ tmC (q k) x).toArray 28 (0,0)):=by rw [hW9,← hsz];exact blk_new _ _
    clear hW9 hW9'
    have hst:∀ j,j<W5.heap.size→j≠w.heap.size→W9.heap[j]?=W5.heap[j]?:=fun j h1 h2=>(hb9.block j (by omega)).trans (hch.block j h1 h2)
    have hO9:W9.heap[w.heap.size]?=some (tmO ⟨none,0,none,0,some ⟨W5.heap.size,0,none⟩,2⟩ (appT z x)):=(hb9.block _ (by omega)).trans hs8
    have hX9:=(hst (w.heap.size+1) (by omega) (by omega)).trans HX5.out
    have hz9:TmS W9 (fun k=>k<g0∨w.heap.size+1+1≤k) p z:=HF5.out.same fun j h1 h2=>hst j h2 (by omega)
    have hx9:TmS W9 (fun k=>k<g0∨w.heap.size+1+1≤k) (q k) x:=(TmS.same HIN5.out fun j h1 h2=>hst j h2 (by omega)).mono fun j h _=>.inl h
    have hb0:Below w.heap.size w WS:=Chg.trans_below HBW5.out hch (fun _ e=>by omega) HBW5.out.size
    have hB9:=below_then hb0 hb0.size hb9
    have hzz:=hB9.size
    have hz99:=hb9.size
    exact ⟨k+1,_,by go_num,by omega,⟨by rw [HTK.out];exact hO9⟩,⟨hX9⟩,⟨by rw [HTK.out];exact TmS.pair hR9 (.inr (by omega)) hz9 hx9 6⟩,⟨hB9⟩,by omega⟩
   case measure=>(simp [intOf];try omega)
  ·obtain rfl:k=n:=by omega
   have hlt':decide ((k:Int)<k)=false:=by simp
   have hfull:xs.take k=xs:=List.take_of_length_le (by rw [HN.out];exact Nat.le_refl _)
   rw [hfull] at HO HF
   clear hfull HIN HN
   obtain ⟨z,hz⟩:∃ z,z=appsP f xs:=⟨_,rfl⟩
   rw [← hz] at HO HF
   have HZE:=Ak hz
   clear hz
   have HGE:=Ak (great_eq z)
   have hzr:w.heap.size<wr.heap.size:=by omega
   by_cases hk:okT z
   ·have HG:=Ak (show greatB z=false by rw [HGE.out];simp [hk])
    have HYO:=Ak (show y=ownT z by rw [HY.out,HZE.out];rw [HZE.out] at hk;exact AppsT_ok hk)
    clear hk
    go_upto_region 8 with (first
     | (refine wpList_load_row rfl 28 _ rfl (w.heap.size) rfl 28 _ (0,0) _ HO.out Try.underlying28 rfl (by kernel_rfl) ?_)
     | (go_at_call 55;go_must (refine (great_calls z p wr (TmS.all HF.out)).mono ?_;rintro e w7 ⟨rfl,hb⟩;rw [HG.out];have HO7:=Ak ((hb.block _ (blk_lt HO.out)).trans HO.out);have HX7:=Ak ((hb.block _ (blk_lt HX.out)).trans HX.out);have HF7:=Ak (TmS.mono (S':=fun k=>(k<g0∨w.heap.size+1+1≤k)∧k<w7.heap.size) (HF.out.later hb) fun k h hz=>⟨h,hz⟩);have HB7:=Ak (below_then HB.out HB.out.size hb);have hz7:=hb.size;clear hb)))
    go_wp2_with (first
     | (refine wpList_load_row rfl 28 _ rfl (w.heap.size) rfl 28 _ (0,0) _ HO7.out Try.underlying28 rfl (by kernel_rfl) ?_)
     | (go_at_call 56;go_must (refine (townS_calls _ w7.heap.size z p w7 (Nat.le_refl _) (fun k h=>h.2) HF7.out).mono ?_;rw [← HYO.out];rintro e w3 ⟨q9,rfl,ht9,hb3⟩;have HT9:=Ak (TmS.mono (S':=fun k=>k<g0∨w.heap.size+1+1≤k) ht9 fun k h _=>h.elim (fun h=>h.1) fun h=>.inr (by omega));have hX13:=(hb3.block _ (blk_lt HX7.out)).trans HX7.out;have HX13:=Ak hX13;have HB3:=Ak (below_then HB7.out HB7.out.size hb3);obtain ⟨r0,r1,r2,r3,r4,r5,r6,r7,f0,f1,f2,f3,f4,f5,f6,f7⟩:=row8c hX13;clear ht9 hb3 hX13;unfold tmV)))
    refine bodyPost_ret (results_c rfl _ _ (w.heap.size+1) 28 #[.int .i64 y.kind,.int .i64 y.num,.string y.name,.int .i64 y.lv.kind,.int .i64 y.lv.num,.slice q9.A y.lv.kids.length q9.c,.slice q9.B y.ls.length q9.d,.slice q9.K y.kids.length q9.e] (0,0) _ rfl (set8 HX13.out) Try.underlying28 rfl (by kernel_rfl)) rfl ?_
    exact tm_ret (g:=w.heap.size+1) HT9.out (chg_set8 w3 (w.heap.size+1) (.int .i64 y.kind) (.int .i64 y.num) (.string y.name) (.int .i64 y.lv.kind) (.int .i64 y.lv.num) (.slice q9.A y.lv.kids.length q9.c) (.slice q9.B y.ls.length q9.d) (.slice q9.K y.kids.length q9.e)) hg0 (by omega) (by omega) HB3.out
   ·have HG:=Ak (show greatB z=true by rw [HGE.out];simp [hk])
    obtain rfl:zeroT=y:=by rw [HY.out];rw [HZE.out] at hk;exact (AppsT_no hk).symm
    clear hk
    go_upto_region 7 with (first
     | (refine wpList_load_row rfl 28 _ rfl (w.heap.size) rfl 28 _ (0,0) _ HO.out Try.underlying28 rfl (by kernel_rfl) ?_)
     | (go_at_call 55;go_must (refine (great_calls z p wr (TmS.all HF.out)).mono ?_;rintro e w7 ⟨rfl,hb⟩;rw [HG.out];have HX7:=Ak ((hb.block _ (blk_lt HX.out)).trans HX.out);have HB7:=Ak (below_then HB.out HB.out.size hb);have hz7:=hb.size;clear hb)))
    obtain ⟨r0,r1,r2,r3,r4,r5,r6,r7,f0,f1,f2,f3,f4,f5,f6,f7⟩:=row8c HX7.out
    go_wp2
    refine bodyPost_ret (results_c rfl _ _ (w.heap.size+1) 28 #[.int .i64 0,.int .i64 0,.string ⟨#[]⟩,.int .i64 0,.int .i64 0,.slice none 0 0,.slice none 0 0,.slice none 0 0] (0,0) _ rfl (set8 HX7.out) Try.underlying28 rfl (by kernel_rfl)) rfl ?_
    exact tm_ret (g:=w.heap.size+1) (m:=w.heap.size+1+1) (TmS.zero w7 _) (chg_set8 w7 (w.heap.size+1) (.int .i64 0) (.int .i64 0) (.string ⟨#[]⟩) (.int .i64 0) (.int .i64 0) (.slice none 0 0) (.slice none 0 0) (.slice none 0 0)) hg0 (by omega) (by omega) HB7.out

end Go.Proofs.Ytdboloabpjmgaaa

namespace Go.Proofs.Ytdboloabpjmgaaa
open Go.RowKit Go.Proofs.YtdboloabpjmgaaaW.PrintWords Go.RegionInvYtdboloabpjmgaaa Go.RegionEYtdboloabpjmgaaa

theorem reb_lam (RF:Tm→Int→Tm) (n:Int) (nm:ByteArray) (lv:Lv) (ls:List Lv) (x y:Tm) (b:Int):rebP RF (.mk 4 n nm lv ls [x,y]) b=.mk 4 0 noName lv0 [] [rebP RF x (b+0),rebP RF y (b+1)]:=(reb_node rfl).trans rfl
theorem reb_app (RF:Tm→Int→Tm) (n:Int) (nm:ByteArray) (lv:Lv) (ls:List Lv) (x y:Tm) (b:Int):rebP RF (.mk 6 n nm lv ls [x,y]) b=.mk 6 0 noName lv0 [] [rebP RF x (b+0),rebP RF y (b+0)]:=(reb_node rfl).trans rfl
theorem size_lam (n:Int) (nm:ByteArray) (lv:Lv) (ls:List Lv) (x y:Tm):sizeT (.mk 4 n nm lv ls [x,y])=1+(sizeT x+(sizeT y+0)):=by rw [sizeT];rfl
theorem size_app (n:Int) (nm:ByteArray) (lv:Lv) (ls:List Lv) (x y:Tm):sizeT (.mk 6 n nm lv ls [x,y])=1+(sizeT x+(sizeT y+0)):=by rw [sizeT];rfl
theorem depth_lam (n:Int) (nm:ByteArray) (lv:Lv) (ls:List Lv) (x y:Tm):depthT (.mk 4 n nm lv ls [x,y])=1+max (depthT x) (max (depthT y) 0):=by rw [depthT];rfl
theorem depth_app (n:Int) (nm:ByteArray) (lv:Lv) (ls:List Lv) (x y:Tm):depthT (.mk 6 n nm lv ls [x,y])=1+max (depthT x) (max (depthT y) 0):=by rw [depthT];rfl
theorem occ_leaf {t:Tm} (h:nK t=0) (b:Int):occT t b=if hitB t b=true then 1 else 0:=by
 rw [occT]
 have:List.finRange (nK t)=[]:=List.eq_nil_of_length_eq_zero (by rw [List.length_finRange];exact h)
 rw [this];rfl
def aC (c:UInt8):Tm:=.mk 7 0 ⟨#[c]⟩ lv0 [] []
theorem cons_aC (c:UInt8):consT ⟨#[c]⟩ []=aC c:=rfl
theorem nK_aC (c:UInt8):nK (aC c)=0:=rfl
theorem nK_var (n:Int):nK (varT n)=0:=rfl
theorem ok_aC (c:UInt8):okT (aC c):=⟨by rw [size_leaf (nK_aC c)];decide,by rw [depth_leaf (nK_aC c)];decide⟩
theorem own_aC (c:UInt8):ownT (aC c)=aC c:=(ownT_ok (ok_aC c)).trans ((reb_leaf rfl).trans rfl)
theorem ok_app {x y:Tm} (hx:nK x=0) (hy:nK y=0):okT (appT x y):=⟨by rw [appT,size_app,size_leaf hx,size_leaf hy];decide,by rw [appT,depth_app,depth_leaf hx,depth_leaf hy];decide⟩
theorem own_app:ownT (appT (varT 1) (varT 0))=appT (varT 1) (varT 0):=by
 rw [ownT_ok (ok_app (nK_var 1) (nK_var 0)),appT,reb_app,reb_leaf rfl,reb_leaf rfl,nodeP_var rfl,nodeP_var rfl];rfl
theorem apps_a:AppsT (varT 1) [varT 0]=appT (varT 1) (varT 0):=(AppsT_ok (f:=varT 1) (xs:=[varT 0]) (ok_app (nK_var 1) (nK_var 0))).trans own_app
def aL:Tm:=.mk 4 0 noName lv0 [] [aC 97,appT (varT 1) (varT 0)]
theorem made_a:madeT 4 [aC 97,appT (varT 1) (varT 0)]=aL:=by
 show Tm.mk 4 0 noName lv0 [] [ownT (aC 97),ownT (appT (varT 1) (varT 0))]=aL
 rw [own_aC,own_app];rfl
theorem ok_lam {c x y:Tm} (hc:nK c=0) (hx:nK x=0) (hy:nK y=0):okT (.mk 4 0 noName lv0 [] [c,appT x y]):=
 ⟨by rw [size_lam,appT,size_app,size_leaf hc,size_leaf hx,size_leaf hy];decide,by rw [depth_lam,appT,depth_app,depth_leaf hc,depth_leaf hx,depth_leaf hy];decide⟩
def aY:Tm:=.mk 4 0 noName lv0 [] [aC 97,appT (aC 99) (varT 0)]
theorem inst_a:InstT aL (aC 99)=aY:=by
 have hs:instS aL (aC 99)≤20000:=by
  unfold instS
  rw [size_leaf (nK_aC 99),aL,size_lam,appT,size_app,size_leaf (nK_aC 97),size_leaf (nK_var 1),size_leaf (nK_var 0)]
  simp
 rw [InstT_ok (t:=aL) (ok_lam (nK_aC 97) (nK_var 1) (nK_var 0)) (ok_aC 99) hs]
 have e:rebP (instF (aC 99)) aL 0=aY:=by
  rw [aL,appT,reb_lam,reb_app,reb_leaf rfl,reb_leaf rfl,reb_leaf rfl,instF_hit (b:=0+1+0) rfl rfl,instF_near (t:=varT 0) (by decide)]
  rw [show liftT 0 (0+1+0) (aC 99)=aC 99 from (reb_leaf rfl).trans rfl,nodeP_var rfl]
  rfl
 rw [e,fitT_ok (t:=aY) (ok_lam (nK_aC 97) (nK_aC 99) (nK_var 0))]
theorem one_row {w:World} {g:Nat} {p:Pl} {t:Tm} (h:w.heap[g]?=some (tmO p t)) (ht:TmIn w w.heap.size p t):TmsAt w w.heap.size (some ⟨g,0,none⟩) (fun _=>p) [t]:=by
 have hg:=blk_lt h
 intro i x hx
 have hi:i=0:=by
  have:=(List.getElem?_eq_some_iff.1 hx).1
  simp only [List.length_cons,List.length_nil] at this
  omega
 subst hi
 obtain rfl:t=x:=by simpa using hx
 refine ⟨⟨g,0,rfl,hg,fun j v hv=>?_⟩,ht⟩
 rw [show 0+0 * 8+j=j by omega,cell_of_row _ _ _ _ _ _ h]
 have e:(tmC p t).toArray[j]?=(tmC p t)[j]?:=List.getElem?_toArray
 exact e.trans hv
set_option maxRecDepth 100000 in
set_option maxHeartbeats 4000000 in
theorem awake_calls (w:World):Calls Try.prog 25 #[] w fun e w'=>e=.returned (.bool true)∧Below w.heap.size w w':=by
 obtain ⟨ca,hca⟩:∃ x,x=consT ⟨#[97]⟩ []:=⟨_,rfl⟩
 obtain ⟨cc,hcc⟩:∃ x,x=consT ⟨#[99]⟩ []:=⟨_,rfl⟩
 obtain ⟨v1,hv1⟩:∃ x,x=varT 1:=⟨_,rfl⟩
 obtain ⟨v0,hv0⟩:∃ x,x=varT 0:=⟨_,rfl⟩
 obtain ⟨ap,hap⟩:∃ x,x=AppsT v1 [v0]:=⟨_,rfl⟩
 obtain ⟨la,hla⟩:∃ x,x=madeT 4 [ca,ap]:=⟨_,rfl⟩
 obtain ⟨y,hy⟩:∃ x,x=InstT la cc:=⟨_,rfl⟩
 have HY:=Ak (show y=aY by rw [hy,hla,hap,hca,hcc,hv1,hv0,cons_aC,cons_aC,apps_a,made_a,inst_a])
 have HCA:=Ak hca
 have HCC:=Ak hcc
 have HV1:=Ak hv1
 have HV0:=Ak hv0
 have HAP:=Ak hap
 have HLA:=Ak hla
 have HYI:=Ak hy
 clear hca hcc hv1 hv0 hap hla hy
 go_enter Try.func25,Try.ntmps25
 go_upto_region 2 with (first
  | (go_at_call 28;(refine (TmGot.as (tconst_calls 0 ⟨#[97]⟩ none 0 0 [] w (Nat.zero_le _) rfl (by decide) (by decide) (LvS.leaf _ _ _ _)) HCA.out.symm).mono ?_;rintro e w1 ⟨q1,rfl,ht,hb⟩;have HT1:=Ak (TmS.all ht);have HB1:=Ak (hb);have HS1:=Ak hb;clear ht hb;unfold tmV))
  | (go_at_call 14;(refine (TmGot.as (tvar_calls 0 1 w1 (by decide)) HV1.out.symm).mono ?_;rintro e w2 ⟨q2,rfl,ht,hb⟩;have HT2:=Ak (TmS.all ht);have HB2:=Ak (below_then HB1.out HB1.out.size hb);have HS2:=Ak hb;clear ht hb;unfold tmV))
  | (go_at_call 14;(refine (TmGot.as (tvar_calls 0 0 w2 (by decide)) HV0.out.symm).mono ?_;rintro e w3 ⟨q3,rfl,ht,hb⟩;have HT3:=Ak (TmS.all ht);have HB3:=Ak (below_then HB2.out HB2.out.size hb);have HS3:=Ak hb;clear ht hb;unfold tmV))
  | (have hrow:=Ak (show (w3.alloc (tmO q3 v0)).heap[w3.heap.size]?=some (tmO q3 v0) from blk_new _ _);have HBR:=Ak (show Below w3.heap.size w3 (w3.alloc (tmO q3 v0)) from below_alloc (Below.refl _ _) _);obtain ⟨W,hW⟩:∃ W,W=w3.alloc (tmO q3 v0):=⟨_,rfl⟩;rw [← hW] at hrow HBR;unfold tmO at hW;rw [← hW];clear hW;have HBW:=Ak (below_then HB3.out HB3.out.size HBR.out);have HV1W:=Ak (TmS.all ((HT2.out.later HS3.out).later HBR.out));have HV0W:=Ak (TmS.all (HT3.out.later HBR.out));have HCAW:=Ak (TmS.all (((HT1.out.later HS2.out).later HS3.out).later HBR.out));(go_at_call 16;(refine (TmGot.as (Apps_calls W.heap.size v1 q2 (some ⟨w3.heap.size,0,none⟩) 1 1 _ [v0] W (Nat.le_refl _) rfl (by decide) HV1W.out (one_row hrow.out HV0W.out)) HAP.out.symm).mono ?_;rintro e w4 ⟨q4,rfl,ht,hb⟩;have HT4:=Ak (TmS.all ht);have HB4:=Ak (below_then HBW.out HBW.out.size hb);have HS4:=Ak hb;clear ht hb;unfold tmV)))
  | (go_at_call 31;(refine (TmGot.as (lam_calls w4.heap.size q1 ca q4 ap w4 (Nat.le_refl _) (TmS.all (HCAW.out.later HS4.out)) HT4.out) HLA.out.symm).mono ?_;rintro e w5 ⟨q5,rfl,ht,hb⟩;have HT5:=Ak (TmS.all ht);have HB5:=Ak (below_then HB4.out HB4.out.size hb);have HS5:=Ak hb;clear ht hb;unfold tmV))
  | (go_at_call 28;(refine (TmGot.as (tconst_calls 0 ⟨#[99]⟩ none 0 0 [] w5 (Nat.zero_le _) rfl (by decide) (by decide) (LvS.leaf _ _ _ _)) HCC.out.symm).mono ?_;rintro e w6 ⟨q6,rfl,ht,hb⟩;have HT6:=Ak (TmS.all ht);have HB6:=Ak (below_then HB5.out HB5.out.size hb);have HS6:=Ak hb;clear ht hb;unfold tmV))
  | (go_at_call 17;(refine (TmGot.as (Inst_calls w6.heap.size la cc q5 q6 w6 (Nat.le_refl _) (TmS.all (HT5.out.later HS6.out)) HT6.out) HYI.out.symm).mono ?_;rintro e w7 ⟨q7,rfl,ht,hb⟩;have HT7:=Ak (TmS.all ht);have HB7:=Ak (below_then HB6.out HB6.out.size hb);have HS7:=Ak hb;clear ht hb;unfold tmV)))
 obtain ⟨W8,hW8⟩:∃ W8,W8=w7.alloc (tmO q7 y):=⟨_,rfl⟩
 have hb8:Below w7.heap.size w7 W8:=by rw [hW8];exact below_alloc (Below.refl _ _) _
 have HT8:=Ak (TmS.later HT7.out hb8)
 have HO8:=Ak (show W8.heap[w7.heap.size]?=some (tmO q7 y) by rw [hW8];exact blk_new _ _)
 have HB8:=Ak (below_then HB7.out HB7.out.size hb8)
 unfold tmO at hW8
 rw [← hW8]
 clear hW8 hb8
 clear HT1 HT2 HT3 HT4 HT5 HT6 HT7 HB1 HB2 HB3 HB4 HB5 HB6 HB7 HS1 HS2 HS3 HS4 HS5 HS6 HS7 hrow HBR HBW HV1W HV0W HCAW
 have hT:=HT8.out
 rw [HY.out] at hT
 obtain ⟨qk,hk⟩:=hT.kid
 obtain ⟨⟨b,o,hK,-,hc⟩,hT1⟩:=hk 1 (appT (aC 99) (varT 0)) rfl
 obtain ⟨qq,hkk⟩:=hT1.kid
 obtain ⟨⟨b0,o0,hK0,-,hc0⟩,-⟩:=hkk 0 (aC 99) rfl
 obtain ⟨⟨b1,o1,hK1,-,hc1⟩,-⟩:=hkk 1 (varT 0) rfl
 obtain ⟨k0,k1,k2,k3,k4,k5,k6,k7⟩:=row8 HO8.out
 obtain ⟨rfl,rfl⟩:b0=b1∧o0=o1:=by
  have e:=hK0.symm.trans hK1
  injection e with e
  injection e with e1 e2
  exact ⟨e1,e2⟩
 have m0:W8.cell? ⟨w7.heap.size,0,none⟩=some (.int .i64 4):=by rw [HY.out] at k0;exact k0
 have m7:W8.cell? ⟨w7.heap.size,7,none⟩=some (.slice (some ⟨b,o,none⟩) 2 q7.e):=by rw [HY.out,hK] at k7;exact k7
 have d7:W8.cell? ⟨b,o+8+7,none⟩=some (.slice (some ⟨b0,o0,none⟩) 2 (qk 1).e):=by have:=hc 7 _ rfl;rw [hK0] at this;exact this
 have n2:W8.cell? ⟨b0,o0+2,none⟩=some (.string ⟨#[99]⟩):=hc0 2 _ rfl
 have n1:W8.cell? ⟨b0,o0+8+1,none⟩=some (.int .i64 0):=hc1 1 _ rfl
 have d7':W8.cell? ⟨b,o+15,none⟩=some (.slice (some ⟨b0,o0,none⟩) 2 (qk 1).e):=d7
 have n1':W8.cell? ⟨b0,o0+9,none⟩=some (.int .i64 0):=n1
 clear k0 k1 k2 k3 k4 k5 k6 k7 hk hkk hc hc0 hc1 hT hT1 hK hK0 hK1
 go_wp2
 go_ret
 exact ⟨rfl,HB8.out⟩

end Go.Proofs.Ytdboloabpjmgaaa

namespace Go.Proofs.Ytdboloabpjmgaaa
open Go.RowKit Go.Proofs.YtdboloabpjmgaaaW.PrintWords Go.RegionInvYtdboloabpjmgaaa

def mayF (v:Int) (l:Lv) (d s:Int):Int × Int:=
 if 32<d∨100<s+1 then (2,s+1) else if l.kind=2∧l.kids=[] then (if l.num<0∨v≤l.num then (10,s+1) else (0,s+1)) else if rightP l 1048576 0=false then (1,s+1) else (0,s+1)
theorem mayF_long {v:Int} {l:Lv} {d s:Int} (h:32<d∨100<s+1):mayF v l d s=(2,s+1):=if_pos h
theorem mayF_var {v:Int} {l:Lv} {d s:Int} (h:¬ (32<d∨100<s+1)) (h2:l.kind=2∧l.kids=[]):mayF v l d s=(if l.num<0∨v≤l.num then (10,s+1) else (0,s+1)):=(if_neg h).trans (if_pos h2)
theorem mayF_rest {v:Int} {l:Lv} {d s:Int} (h:¬ (32<d∨100<s+1)) (h2:¬ (l.kind=2∧l.kids=[])):mayF v l d s=(if rightP l 1048576 0=false then (1,s+1) else (0,s+1)):=(if_neg h).trans (if_neg h2)
theorem mayF_small' {v:Int} {l:Lv} {d s:Int} (_hs:0≤s) (h:(mayF v l d s).1=0):s+1≤100∧d≤32∧True∧mayF v l d s=(0,s+1):=by
 by_cases h1:32<d∨100<s+1
 ·rw [mayF_long h1] at h;simp at h
 ·refine ⟨by omega,by omega,trivial,?_⟩
  by_cases h2:l.kind=2∧l.kids=[]
  ·rw [mayF_var h1 h2] at h ⊢
   split at h
   ·simp at h
   ·rename_i h3;rw [if_neg h3]
  ·rw [mayF_rest h1 h2] at h ⊢
   split at h
   ·simp at h
   ·rename_i h3;rw [if_neg h3]
theorem mayF_small (v:Int):Small (mayF v) 100:=fun l d s h0 h=>by
 have:=mayF_small' h0 h
 rw [this.2.2.2]
 exact ⟨by show 0≤s+1;omega,this.1⟩
theorem NumAt.chg {w w':World} {g gv:Nat} {s:Int} (h:NumAt w gv s) (hc:Chg (fun k=>k=g) w w') (hne:g≠gv):NumAt w' gv s:=(hc.block gv (blk_lt h) (fun e=>hne e.symm)).trans h
end Go.Proofs.Ytdboloabpjmgaaa

namespace Go.Proofs.Ytdboloabpjmgaaa
open Go.RowKit Go.Proofs.YtdboloabpjmgaaaW.PrintWords Go.RegionInvYtdboloabpjmgaaa

def mayB (v:Int) (l:Lv):Int:=(walkP (mayF v) l 1 0).1
theorem may_bad {v:Int} {l:Lv} {d s:Int} {e:Int} (h:mayF v l d s=(e,s+1)) (he:e≠0):walkP (mayF v) l d s=(e,s+1):=by rw [walkP_stop (by rw [h];exact he),h]
set_option maxRecDepth 4000 in
set_option maxHeartbeats 8000000 in
theorem ref_may (v:Int) (N:Nat):∀ (l:Lv),SizeOf.sizeOf l<N→∀ (A:Option Addr) (c:Nat) (d s:Int) (g B:Nat) (w:World),LvIn w B A c l→NumAt w g s→B≤g→0≤s→s≤100→0≤d→d≤33 →
  Calls Try.prog 89 #[lvV A c l,.int .i64 v,.int .i64 d,.pointer (some ⟨g,0,none⟩)] w (VisitPost w g (walkP (mayF v) l d s)):=by
 induction N with
 | zero=>intro l h;omega
 | succ N ih =>
  rintro ⟨lk,ln,ks⟩ hN A c d s g B w hin hg hBg hs0 hs1 hd0 hd1
  have IH:=Ak ih
  have HIN:=Ak hin
  have HG:=Ak hg
  have hcell:=hg.cell
  have hfz:=blk_frozen hg 0
  have hlen:=hin.len
  simp only [Lv.kids] at hlen
  have hl9:ks.length≤9223372036854775807:=by omega
  have hglt:=blk_lt hg
  have hgne:g≠w.heap.size:=Nat.ne_of_lt hglt
  clear ih hin hg hlen
  unfold lvV
  simp only [Lv.kind,Lv.num,Lv.kids]
  obtain ⟨m,hm⟩:∃ m,m=ks.length:=⟨_,rfl⟩
  rw [← hm] at hl9 ⊢
  have HM:=Ak hm
  clear hm
  have hfin:NumAt ((w.setCell ⟨g,0,none⟩ (.int .i64 (s+1))).alloc (.cells #[.int .i64 lk,.int .i64 ln,.slice A m c] 25 (0,0))) g (s+1):=(HG.out.set _).alloc _
  have hch:Chg (fun k=>k=g) w ((w.setCell ⟨g,0,none⟩ (.int .i64 (s+1))).alloc (.cells #[.int .i64 lk,.int .i64 ln,.slice A m c] 25 (0,0))):=chg_trans (chg_set _ _ _ _) (chg_alloc _ _ _)
  have HF:=Ak (And.intro hfin hch)
  have hc2:=hfin.cell
  clear hfin hch
  go_enter Try.func89,Try.ntmps89
  by_cases h1:32<d
  ·have hw:=Ak (may_bad (mayF_long (v:=v) (l:=.mk lk ln ks) (s:=s) (.inl h1)) (by decide))
   go_wp2
   go_ret
   rw [hw.out]
   exact ⟨rfl,HF.out.1,HF.out.2⟩
  ·by_cases h2:100<s+1
   ·have hw:=Ak (may_bad (mayF_long (v:=v) (l:=.mk lk ln ks) (d:=d) (.inr h2)) (by decide))
    go_wp2
    go_ret
    rw [hw.out]
    exact ⟨rfl,HF.out.1,HF.out.2⟩
   ·by_cases h3:(m:Int)=arityP lk
    ·have h3':((m:Int) != arityP lk)=false:=by simp [h3]
     have h3n:0≤arityP lk:=by omega
     have HAR:=Ak h3
     clear h3
     go_upto_block 0 with (fail)
     go_cut [] (fun w2=>Aside0 (mayF v (.mk lk ln ks) d s=(0,s+1))∧Aside0 (NumAt w2 g (s+1))∧Aside0 (Chg (fun k=>k=g) w w2)∧w2.cell? ⟨w.heap.size,2,none⟩=some (.slice A m c))
     case first =>
      have hbx:((w.setCell ⟨g,0,none⟩ (.int .i64 (s+1))).alloc (.cells #[.int .i64 lk,.int .i64 ln,.slice A m c] 25 (0,0))).cell? ⟨w.heap.size,2,none⟩=some (.slice A m c):=by
       have:=box_cell (w.setCell ⟨g,0,none⟩ (.int .i64 (s+1))) #[.int .i64 lk,.int .i64 ln,.slice A m c] 25 2 (.slice A m c) rfl
       rwa [show (w.setCell ⟨g,0,none⟩ (.int .i64 (s+1))).heap.size=w.heap.size by simp [World.setCell]] at this
      have HBX:=Ak hbx
      clear hbx
      by_cases k1:lk=1
      ·have e1:(lk == 1)=true:=by simp [k1]
       have e2:(lk == 2)=false:=by simp [k1]
       have e3:(lk == 3)=false:=by simp [k1]
       have HR:=Ak (mayF_rest (v:=v) (l:=.mk lk ln ks) (d:=d) (s:=s) (by omega) (fun h=>by have:=h.1;simp only [Lv.kind] at this;omega))
       have HRR:=Ak (show rightP (.mk lk ln ks) 1048576 0=decide (0≤ln∧ln≤1048576) by rw [k1];exact right_num (by rw [← HM.out,HAR.out,k1]))
       clear k1
       by_cases q0:ln<0
       ·have hw:=Ak (may_bad (HR.out.trans (if_pos (by rw [HRR.out];exact decide_eq_false (by omega)))) (by decide))
        go_upto_region 4 with (fail)
        go_quiet ((go_at_call 115;exact Calls.quiet_of_same (arity_calls _ _)))
        go_wp2
        go_ret
        rw [hw.out]
        exact ⟨rfl,HF.out.1,chg_drewN HF.out.2 _⟩
       ·by_cases q1:1048576<ln
        ·have hw:=Ak (may_bad (HR.out.trans (if_pos (by rw [HRR.out];exact decide_eq_false (by omega)))) (by decide))
         go_upto_region 4 with (fail)
         go_quiet ((go_at_call 115;exact Calls.quiet_of_same (arity_calls _ _)))
         go_wp2
         go_ret
         rw [hw.out]
         exact ⟨rfl,HF.out.1,chg_drewN HF.out.2 _⟩
        ·have HOK:=Ak (HR.out.trans (if_neg (by rw [HRR.out,decide_eq_true (by omega)];decide)))
         go_upto_region 4 with (fail)
         go_quiet ((go_at_call 115;exact Calls.quiet_of_same (arity_calls _ _)))
         go_wp2
         go_meet
         case rel=>exact ⟨HOK,⟨HF.out.1⟩,⟨chg_drewN HF.out.2 _⟩,HBX.out⟩
      ·have e1:(lk == 1)=false:=by simp [k1]
       by_cases k2:lk=2
       ·have e2:(lk == 2)=true:=by simp [k2]
        have e3:(lk == 3)=false:=by simp [k2]
        have HKS:=Ak (show ks=[] from List.eq_nil_of_length_eq_zero (by have:=HAR.out;rw [k2,← HM.out] at *;simp [arityP] at this;omega))
        have HR:=Ak (mayF_var (v:=v) (l:=.mk lk ln ks) (d:=d) (s:=s) (by omega) ⟨k2,HKS.out⟩)
        clear k1 k2
        by_cases q0:ln<0
        ·have hw:=Ak (may_bad (HR.out.trans (if_pos (.inl q0))) (by decide))
         go_upto_region 4 with (fail)
         go_quiet ((go_at_call 115;exact Calls.quiet_of_same (arity_calls _ _)))
         go_wp2
         go_ret
         rw [hw.out]
         exact ⟨rfl,HF.out.1,chg_drewN HF.out.2 _⟩
        ·by_cases q1:v≤ln
         ·have hw:=Ak (may_bad (HR.out.trans (if_pos (.inr q1))) (by decide))
          go_upto_region 4 with (fail)
          go_quiet ((go_at_call 115;exact Calls.quiet_of_same (arity_calls _ _)))
          go_wp2
          go_ret
          rw [hw.out]
          exact ⟨rfl,HF.out.1,chg_drewN HF.out.2 _⟩
         ·have HOK:=Ak (HR.out.trans (if_neg (by simp only [Lv.num];omega)))
          go_upto_region 4 with (fail)
          go_quiet ((go_at_call 115;exact Calls.quiet_of_same (arity_calls _ _)))
          go_wp2
          go_meet
          case rel=>exact ⟨HOK,⟨HF.out.1⟩,⟨chg_drewN HF.out.2 _⟩,HBX.out⟩
       ·have e2:(lk == 2)=false:=by simp [k2]
        have HR:=Ak (mayF_rest (v:=v) (l:=.mk lk ln ks) (d:=d) (s:=s) (by omega) (fun h=>k2 h.1))
        by_cases k3:lk=3
        ·have e3:(lk == 3)=true:=by simp [k3]
         have HRR:=Ak (show rightP (.mk lk ln ks) 1048576 0=decide (1≤ln∧ln≤1048576) by rw [k3];exact right_succ (by rw [← HM.out,HAR.out,k3]))
         clear k1 k2 k3
         by_cases q0:ln<1
         ·have hw:=Ak (may_bad (HR.out.trans (if_pos (by rw [HRR.out];exact decide_eq_false (by omega)))) (by decide))
          go_upto_region 4 with (fail)
          go_quiet ((go_at_call 115;exact Calls.quiet_of_same (arity_calls _ _)))
          go_wp2
          go_ret
          rw [hw.out]
          exact ⟨rfl,HF.out.1,chg_drewN HF.out.2 _⟩
         ·by_cases q1:1048576<ln
          ·have hw:=Ak (may_bad (HR.out.trans (if_pos (by rw [HRR.out];exact decide_eq_false (by omega)))) (by decide))
           go_upto_region 4 with (fail)
           go_quiet ((go_at_call 115;exact Calls.quiet_of_same (arity_calls _ _)))
           go_wp2
           go_ret
           rw [hw.out]
           exact ⟨rfl,HF.out.1,chg_drewN HF.out.2 _⟩
          ·have HOK:=Ak (HR.out.trans (if_neg (by rw [HRR.out,decide_eq_true (by omega)];decide)))
           go_upto_region 4 with (fail)
           go_quiet ((go_at_call 115;exact Calls.quiet_of_same (arity_calls _ _)))
           go_wp2
           go_meet
           case rel=>exact ⟨HOK,⟨HF.out.1⟩,⟨chg_drewN HF.out.2 _⟩,HBX.out⟩
        ·have e3:(lk == 3)=false:=by simp [k3]
         have HOK:=Ak (HR.out.trans (if_neg (by rw [right_else (n:=ln) (ks:=ks) (most:=1048576) (mostV:=0) (by rw [← HM.out];exact HAR.out) k1 k2 k3];decide)))
         clear k1 k2 k3
         go_upto_region 4 with (fail)
         go_quiet ((go_at_call 115;exact Calls.quiet_of_same (arity_calls _ _)))
         go_wp2
         go_meet
         case rel=>exact ⟨HOK,⟨HF.out.1⟩,⟨chg_drewN HF.out.2 _⟩,HBX.out⟩
     case rest =>
      obtain ⟨HRT,HG0,HC0,hbox2⟩:=hcut
      have hz:(mayF v (.mk lk ln ks) d s).1=0:=by rw [HRT.out]
      have HE:=Ak (walkP_go hz)
      rw [HRT.out] at HE
      simp only [Lv.kids] at HE
      have hs3:s+1≤100:=by omega
      clear hz
      go_wp2
      go_loopw [87] (fun i wr=>∃ (k:Nat) (s':Int),i=.int .i64 k∧k≤m∧0≤s'∧s'≤100∧Aside0 (walkKs (mayF v) (ks.drop k) (d+1) s'=walkP (mayF v) (.mk lk ln ks) d s)∧Aside0 (NumAt wr g s')∧Aside0 (Chg (fun k=>k=g) w wr)) (fun i _=>m - (intOf i).toNat)
      case atStart=>exact ⟨0,s+1,rfl,Nat.zero_le _,by omega,by omega,⟨HE.out.symm⟩,HG0,HC0⟩
      case round =>
       clear HE HG0 HC0 hbox2
       obtain ⟨k,s',rfl,hk,hs4,hs5,HE,HG1,HC1⟩:=hrel
       have HIN2:=Ak (LvIn.stay HIN.out (chg_below HC1.out hBg (Nat.le_of_lt (Nat.lt_of_le_of_lt hBg hglt))))
       by_cases hlt:k<m
       ·have hlt2:k<ks.length:=by rw [← HM.out];exact hlt
        obtain ⟨x,hx⟩:∃ x,ks[k]?=some x:=⟨_,List.getElem?_eq_getElem hlt2⟩
        obtain ⟨A',c',hcs,hin⟩:=HIN2.out.kid k x hx
        obtain ⟨ad,rfl,hc1,hc2,hc3⟩:=hcs.facts
        clear hcs
        have HX:=Ak hx
        have HXIN:=Ak hin
        clear hx hin hlt2
        have hglt2:=blk_lt HG1.out
        by_cases h2:(walkP (mayF v) x (d+1) s').1=0
        ·have hsm:=walkP_small (mayF_small v) x (d+1) s' hs4 h2
         have HK:=Ak ((walkKs_go (r:=ks.drop (k+1)) h2).symm.trans ((congrArg (fun l=>walkKs (mayF v) l (d+1) s') (drop_kid HX.out)).symm.trans HE.out))
         obtain ⟨e2,s2,hes⟩:∃ a b,walkP (mayF v) x (d+1) s'=(a,b):=⟨_,_,rfl⟩
         have HV:=Ak hes
         rw [hes] at hsm h2 HK
         simp only at hsm h2 HK
         subst h2
         have hs6:=hsm.1
         have hs7:=hsm.2
         clear hes hsm
         go_wp2_with (go_at_call 89;go_must (refine (IH.out x (Nat.lt_of_lt_of_le (kid_small HX.out) (Nat.le_of_lt_succ hN)) A' c' (d+1) s' g B _ (LvIn.stay HXIN.out ((Below.refl _ _).alloc (Nat.le_of_lt (Nat.lt_of_le_of_lt hBg hglt2)) _)) (HG1.out.alloc _) hBg hs4 hs5 (by omega) (by omega)).mono ?_;rintro e w2 ⟨rfl,hg1,hc1⟩;rw [HV.out] at hg1 ⊢;have HG2:=Ak hg1;have HC2:=Ak (chg_trans HC1.out (chg_trans (chg_alloc _ _ _) hc1));clear hg1 hc1))
         go_roundw
         case rel=>exact ⟨k+1,s2,by go_num,by omega,hs6,hs7,HK,HG2,HC2⟩
         case measure=>(simp [intOf];try omega)
        ·have HK:=Ak ((walkKs_stop (r:=ks.drop (k+1)) h2).symm.trans ((congrArg (fun l=>walkKs (mayF v) l (d+1) s') (drop_kid HX.out)).symm.trans HE.out))
         obtain ⟨e2,s2,hes⟩:∃ a b,walkP (mayF v) x (d+1) s'=(a,b):=⟨_,_,rfl⟩
         have HV:=Ak hes
         rw [hes] at h2
         have h2':(e2 != 0)=true:=by simpa using h2
         clear hes h2
         go_wp2_with (go_at_call 89;go_must (refine (IH.out x (Nat.lt_of_lt_of_le (kid_small HX.out) (Nat.le_of_lt_succ hN)) A' c' (d+1) s' g B _ (LvIn.stay HXIN.out ((Below.refl _ _).alloc (Nat.le_of_lt (Nat.lt_of_le_of_lt hBg hglt2)) _)) (HG1.out.alloc _) hBg hs4 hs5 (by omega) (by omega)).mono ?_;rintro e w2 ⟨rfl,hg1,hc1⟩;rw [HV.out] at hg1 ⊢;have HG2:=Ak hg1;have HC2:=Ak (chg_trans HC1.out (chg_trans (chg_alloc _ _ _) hc1));clear hg1 hc1))
         go_ret
         rw [← HK.out,HV.out]
         exact ⟨rfl,HG2.out,HC2.out⟩
       ·obtain rfl:k=m:=by omega
        have hlt':decide ((k:Int)<k)=false:=by simp
        have HW:=Ak (show walkP (mayF v) (.mk lk ln ks) d s=(0,s') by rw [← HE.out,List.drop_of_length_le (by rw [← HM.out];exact Nat.le_refl _),walkKs])
        go_wp2
        go_ret
        rw [HW.out]
        exact ⟨rfl,HG1.out,HC1.out⟩
    ·have hbad:rightP (.mk lk ln ks) 1048576 0=false:=right_bad (by rw [← HM.out];exact h3)
     have hw:=Ak (may_bad ((mayF_rest (v:=v) (l:=.mk lk ln ks) (d:=d) (s:=s) (by omega) (fun h=>h3 (by rw [HM.out,show lk=2 from h.1,show ks=[] from h.2];rfl))).trans (if_pos hbad)) (by decide))
     have h3':((m:Int) != arityP lk)=true:=by simp [h3]
     clear hbad h3
     go_upto_region 4 with (fail)
     by_cases h4:arityP lk<0
     ·go_quiet ((go_at_call 115;exact Calls.quiet_of_same (arity_calls _ _)))
      go_wp2
      go_ret
      rw [hw.out]
      exact ⟨rfl,HF.out.1,chg_drewN HF.out.2 _⟩
     ·go_quiet ((go_at_call 115;exact Calls.quiet_of_same (arity_calls _ _)))
      go_wp2
      go_ret
      rw [hw.out]
      exact ⟨rfl,HF.out.1,chg_drewN HF.out.2 _⟩
end Go.Proofs.Ytdboloabpjmgaaa

namespace Go.Proofs.Ytdboloabpjmgaaa
open Go.RowKit Go.Proofs.YtdboloabpjmgaaaW.PrintWords Go.RegionInvYtdboloabpjmgaaa

set_option maxHeartbeats 4000000 in
theorem refMay_calls (A:Option Addr) (c:Nat) (l:Lv) (v:Int) (w:World) (hin:LvIn w w.heap.size A c l) :
  Calls Try.prog 53 #[lvV A c l,.int .i64 v] w fun e w'=>e=.returned (.int .i64 (mayB v l))∧Below w.heap.size w w':=by
 have HIN:=Ak hin
 clear hin
 unfold lvV
 go_enter Try.func53,Try.ntmps53
 have hnew:NumAt ((w.alloc (.cells #[.int .i64 l.kind,.int .i64 l.num,.slice A l.kids.length c] 25 (0,0))).alloc (.cells #[.int .i64 0] 3 (0,0))) (w.heap.size+1) 0:=by
  have:=blk_new (w.alloc (.cells #[.int .i64 l.kind,.int .i64 l.num,.slice A l.kids.length c] 25 (0,0))) (.cells #[.int .i64 0] 3 (0,0))
  simpa [NumAt] using this
 have HNEW:=Ak hnew
 clear hnew
 go_wp2_with (go_at_call 89;go_must (refine (ref_may v _ l (Nat.lt_succ_self _) A c 1 0 (w.heap.size+1) w.heap.size _ (LvIn.stay HIN.out (below_alloc (below_alloc (Below.refl _ _) _) _)) HNEW.out (Nat.le_succ _) (by decide) (by decide) (by decide) (by decide)).mono ?_;rintro e w1 ⟨rfl,-,hc⟩;have HB:=Ak (two_below hc);clear hc))
 go_ret
 exact ⟨rfl,HB.out⟩
end Go.Proofs.Ytdboloabpjmgaaa

namespace Go.Proofs.Ytdboloabpjmgaaa
open Go.RowKit Go.Proofs.YtdboloabpjmgaaaW.PrintWords Go.RegionInvYtdboloabpjmgaaa

def bt (s:ByteArray) (i:Nat):Nat:=(s.data.toList.getD i 0).toNat
theorem bt_get (s:ByteArray) (i:Nat) (h:i<s.size):(s[i]'h).toNat=bt s i:=by
 obtain ⟨⟨l⟩⟩:=s
 have hl:i<l.length:=h
 unfold bt
 simp only [List.getD,List.getElem?_eq_getElem hl,Option.getD_some]
 rfl
def nchP (x:Nat):Prop:=97≤x∧x≤122∨48≤x∧x≤57∨x=95∨x=46
instance (x:Nat):Decidable (nchP x):=by unfold nchP;infer_instance
def NameP (s:ByteArray):Prop:=(1≤s.size∧s.size≤32)∧(97≤bt s 0∧bt s 0≤122)∧∀ i,i<s.size→nchP (bt s i)
instance (s:ByteArray):Decidable (NameP s):=by unfold NameP;infer_instance
def nameB (s:ByteArray):Bool:=decide (NameP s)
theorem name_no {s:ByteArray} (h:¬ NameP s):nameB s=false:=decide_eq_false h
set_option maxHeartbeats 4000000 in
theorem refname_calls (s:ByteArray) (w:World) (hs:s.size≤140737488355328) :
  Calls Try.prog 47 #[.string s] w fun e w'=>e=.returned (.bool (nameB s))∧Below w.heap.size w w':=by
 go_enter Try.func47,Try.ntmps47
 go_wp2
 go_loopw [8] (fun i wr=>∃ k:Nat,i=.int .i64 k∧k≤s.size∧Aside0 ((∀ j,j<k→nchP (bt s j))∧(0<k→97≤bt s 0∧bt s 0≤122))∧Aside0 (Below w.heap.size w wr)) (fun i _=>s.size - (intOf i).toNat)
 case atStart=>exact ⟨0,rfl,Nat.zero_le _,⟨fun j h=>by omega,fun h=>by omega⟩,⟨Below.refl _ _⟩⟩
 case round =>
  obtain ⟨k,rfl,hk,HK,HBW⟩:=hrel
  by_cases hlt:k<s.size
  ·have hbk:=bt_get s k hlt
   obtain ⟨x,hx⟩:∃ x,x=bt s k:=⟨_,rfl⟩
   rw [← hx] at hbk
   have HX:=Ak hx
   have hxx:x<256:=by rw [← hbk];exact (s[k]'hlt).toNat_lt
   clear hx
   by_cases hn:nchP x∧(k=0→97≤x∧x≤122)
   ·have HN:=Ak (show (∀ j,j<k+1→nchP (bt s j))∧(0<k+1→97≤bt s 0∧bt s 0≤122) from ⟨fun j hj=>by
     by_cases h:j<k
     ·exact HK.out.1 j h
     ·have:j=k:=by omega
      rw [this,← HX.out];exact hn.1,fun _=>by
     by_cases h:0<k
     ·exact HK.out.2 h
     ·have h0:k=0:=by omega
      have:=hn.2 h0
      rw [HX.out,h0] at this
      exact this⟩)
    unfold nchP at hn
    rcases hn with ⟨q1,q2⟩ | ⟨q1,q2⟩ | q1 | q1
    ·have b1:((x:Int) != 95)=true:=by simp;omega
     have b2:((x:Int) != 46)=true:=by simp;omega
     go_wp2
     go_roundw
     case rel=>exact ⟨k+1,by go_num,by omega,HN,HBW⟩
     case measure=>(simp [intOf];try omega)
    ·have b1:((x:Int) != 95)=true:=by simp;omega
     have b2:((x:Int) != 46)=true:=by simp;omega
     have q3:x<97:=by omega
     go_wp2
     go_roundw
     case rel=>exact ⟨k+1,by go_num,by omega,HN,HBW⟩
     case measure=>(simp [intOf];try omega)
    ·have b1:((x:Int) != 95)=false:=by simp;omega
     have q3:x<97:=by omega
     have q4:57<x:=by omega
     have b2:((x:Int) != 46)=true:=by simp;omega
     clear q1
     go_wp2
     go_roundw
     case rel=>exact ⟨k+1,by go_num,by omega,HN,HBW⟩
     case measure=>(simp [intOf];try omega)
    ·have b1:((x:Int) != 95)=true:=by simp;omega
     have b2:((x:Int) != 46)=false:=by simp;omega
     have q3:x<97:=by omega
     have q4:(x:Int)<48:=by omega
     have q5:decide ((x:Int)<48)=true:=by simpa using q4
     clear q1
     go_wp2
     go_roundw
     case rel=>exact ⟨k+1,by go_num,by omega,HN,HBW⟩
     case measure=>(simp [intOf];try omega)
   ·have HR:=Ak (name_no (s:=s) (fun h=>hn ⟨by rw [HX.out];exact h.2.2 k hlt,fun h0=>by subst h0;rw [HX.out];exact h.2.1⟩))
    unfold nchP at hn
    by_cases ha:97≤x∧x≤122
    ·exact absurd ⟨.inl ha,fun _=>ha⟩ hn
    ·have ha':x<97∨122<x:=by omega
     by_cases hz:k=0
     ·have kb:((k:Int) == 0)=true:=by simp [hz]
      clear hn ha hz
      rcases ha' with q1 | q1
      all_goals go_wp2
      all_goals first
       | (go_ret;rw [HR.out];exact ⟨rfl,HBW.out⟩)
       | (exfalso;simp_all;omega)
     ·have kb:((k:Int) == 0)=false:=by simp [hz]
      have b1:((x:Int) != 95)=true:=by simp;omega
      have b2:((x:Int) != 46)=true:=by simp;omega
      have hc:x<48∨57<x∧x<97∨122<x:=by omega
      clear hn ha ha' hz
      rcases hc with q1 | ⟨q1,q2⟩ | q1
      all_goals go_wp2
      all_goals first
       | (go_ret;rw [HR.out];exact ⟨rfl,HBW.out⟩)
       | (exfalso;simp_all;omega)
  ·have hks:k=s.size:=by omega
   have HR:=Ak (show nameB s=decide (1≤s.size∧s.size≤32) by
    unfold nameB
    congr 1
    apply propext
    constructor
    ·exact fun h=>h.1
    ·exact fun h=>⟨h,HK.out.2 (by omega),fun i hi=>HK.out.1 i (by omega)⟩)
   clear hks
   by_cases q1:1≤s.size
   ·by_cases q2:s.size≤32
    ·have HE:=Ak (HR.out.trans (decide_eq_true ⟨q1,q2⟩))
     go_wp2
     go_ret
     rw [HE.out]
     refine ⟨?_,HBW.out⟩
     simp
     try omega
    ·have HE:=Ak (HR.out.trans (decide_eq_false (fun h=>q2 h.2)))
     go_wp2
     go_ret
     rw [HE.out]
     refine ⟨?_,HBW.out⟩
     simp
     try omega
   ·have HE:=Ak (HR.out.trans (decide_eq_false (fun h=>q1 h.1)))
    go_wp2
    go_ret
    rw [HE.out]
    exact ⟨rfl,HBW.out⟩
end Go.Proofs.Ytdboloabpjmgaaa

namespace Go.Proofs.Ytdboloabpjmgaaa
open Go.RowKit Go.Proofs.YtdboloabpjmgaaaW.PrintWords Go.RegionInvYtdboloabpjmgaaa

def mayLs (v:Int):List Lv→Int
 | []=>0
 | l :: r=>if mayB v l=0 then mayLs v r else mayB v l
theorem mayLs_go {v:Int} {l:Lv} {r:List Lv} (h:mayB v l=0):mayLs v (l :: r)=mayLs v r:=by rw [mayLs,if_pos h]
theorem mayLs_stop {v:Int} {l:Lv} {r:List Lv} (h:mayB v l≠0):mayLs v (l :: r)=mayB v l:=by rw [mayLs,if_neg h]
def mnP (v:Int) (t:Tm):Int:=
 if (t.kids.length:Int)≠arZ t.kind then 1 else if t.kind=1∧(t.num<0∨1048576<t.num) then 1 else
 if t.kind=2 then mayB v t.lv else if t.kind≠7 then 0 else if nameB t.name=false then 8 else if 6<t.ls.length then 2 else mayLs v t.ls
theorem mn_kids {v:Int} {t:Tm} (h:(t.kids.length:Int)≠arZ t.kind):mnP v t=1:=if_pos h
theorem mn_num {v:Int} {t:Tm} (h0:(t.kids.length:Int)=arZ t.kind) (h:t.kind=1∧(t.num<0∨1048576<t.num)):mnP v t=1:=by
 unfold mnP;rw [if_neg (fun h=>h h0),if_pos h]
theorem mn_sort {v:Int} {t:Tm} (h0:(t.kids.length:Int)=arZ t.kind) (h:t.kind=2):mnP v t=mayB v t.lv:=by
 unfold mnP;rw [if_neg (fun h=>h h0),if_neg (fun h'=>by have:=h'.1;omega),if_pos h]
theorem mn_else {v:Int} {t:Tm} (h0:(t.kids.length:Int)=arZ t.kind) (h1:¬ (t.kind=1∧(t.num<0∨1048576<t.num))) (h2:t.kind≠2) (h7:t.kind≠7):mnP v t=0:=by
 unfold mnP;rw [if_neg (fun h=>h h0),if_neg h1,if_neg h2,if_pos h7]
theorem mn_const {v:Int} {t:Tm} (h0:(t.kids.length:Int)=arZ t.kind) (h:t.kind=7):mnP v t=if nameB t.name=false then 8 else if 6<t.ls.length then 2 else mayLs v t.ls:=by
 unfold mnP;rw [if_neg (fun h=>h h0),if_neg (fun h'=>by have:=h'.1;omega),if_neg (by omega),if_neg (by omega)]
theorem mn_arity {v:Int} {t:Tm} (h:mnP v t=0):(t.kids.length:Int)=arZ t.kind:=by
 by_cases h1:(t.kids.length:Int)=arZ t.kind
 ·exact h1
 ·rw [mn_kids h1] at h;exact absurd h (by decide)
theorem mn_nK {v:Int} {t:Tm} (h:mnP v t=0):nK t=t.kids.length:=by
 have h1:=mn_arity h
 unfold nK
 rw [if_neg (by omega)]
 omega
theorem LvIn.stay' {w:World} {A:Option Addr} {c:Nat} {l:Lv} {o:Obj} (h:LvIn w w.heap.size A c l):LvIn (w.alloc o) (w.alloc o).heap.size A c l:=(h.stay ((Below.refl _ _).alloc (Nat.le_refl _) o)).all
end Go.Proofs.Ytdboloabpjmgaaa

namespace Go.Proofs.Ytdboloabpjmgaaa
open Go.RowKit Go.Proofs.YtdboloabpjmgaaaW.PrintWords Go.RegionInvYtdboloabpjmgaaa

def ErrAt (w:World) (g:Nat) (n:Int):Prop:=w.heap[g]?=some (.cells #[.int .i64 n] 49 (0,0))
theorem ErrAt.cell {w:World} {g:Nat} {n:Int} (h:ErrAt w g n):w.cell? ⟨g,0,none⟩=some (.int .i64 n):=by rw [cell_of_row _ _ _ _ _ _ h];rfl
theorem ErrAt.set {w:World} {g:Nat} {n:Int} (h:ErrAt w g n) (m:Int):ErrAt (w.setCell ⟨g,0,none⟩ (.int .i64 m)) g m:=blk_put h 0 _ rfl
def mtF (v:Int) (t:Tm) (d _:Int) (s:Int × Int):Bool × (Int × Int):=
 if 64<d∨400<s.1+1 then (false,(s.1+1,2)) else (decide (mnP v t=0),(s.1+1,mnP v t))
theorem mtF_long {v:Int} {t:Tm} {d b:Int} {s:Int × Int} (h:64<d∨400<s.1+1):mtF v t d b s=(false,(s.1+1,2)):=if_pos h
theorem mtF_node {v:Int} {t:Tm} {d b:Int} {s:Int × Int} (h:¬ (64<d∨400<s.1+1)):mtF v t d b s=(decide (mnP v t=0),(s.1+1,mnP v t)):=if_neg h
def InvY (s:Int × Int):Prop:=0≤s.1∧s.1≤400
theorem mtF_ok {v:Int} {t:Tm} {d b:Int} {s:Int × Int} (hd:0≤d∧d≤65) (hI:InvY s) (h:(mtF v t d b s).1=true):InvY (mtF v t d b s).2∧∀ _:Fin (nK t),0≤d+1∧d+1≤65:=by
 by_cases h1:64<d∨400<s.1+1
 ·rw [mtF_long h1] at h;cases h
 ·rw [mtF_node h1] at h ⊢
  obtain ⟨i1,i2⟩:=hI
  unfold InvY
  simp only
  exact ⟨by omega,fun _=>by omega⟩
def mayT (v:Int) (t:Tm):Int:=(foldP (mtF v) t 1 0 (0,0)).2.2
end Go.Proofs.Ytdboloabpjmgaaa

namespace Go.Proofs.Ytdboloabpjmgaaa
open Go.RowKit Go.Proofs.YtdboloabpjmgaaaW.PrintWords Go.RegionInvYtdboloabpjmgaaa

theorem refkids_calls (k:Int) (w:World):Calls Try.prog 39 #[.int .i64 k] w fun e w'=>e=.returned (.int .i64 (arZ k))∧w'=w:=by
 go_enter Try.func39,Try.ntmps39
 by_cases h1:k=1
 ·subst h1;go_wp2;go_ret;exact ⟨rfl,rfl⟩
 ·by_cases h2:k=2
  ·subst h2;go_wp2;go_ret;exact ⟨rfl,rfl⟩
  ·by_cases h7:k=7
   ·subst h7;go_wp2;go_ret;exact ⟨rfl,rfl⟩
   ·by_cases h3:k=3
    ·subst h3;go_wp2;go_ret;exact ⟨rfl,rfl⟩
    ·by_cases h4:k=4
     ·subst h4;go_wp2;go_ret;exact ⟨rfl,rfl⟩
     ·by_cases h6:k=6
      ·subst h6;go_wp2;go_ret;exact ⟨rfl,rfl⟩
      ·by_cases h5:k=5
       ·subst h5;go_wp2;go_ret;exact ⟨rfl,rfl⟩
       ·have HE:=Ak (show arZ k = -1 by unfold arZ;rw [if_neg (by omega),if_neg (by omega),if_neg h5])
        have b1:(k == 1)=false:=by simp [h1]
        have b2:(k == 2)=false:=by simp [h2]
        have b3:(k == 3)=false:=by simp [h3]
        have b4:(k == 4)=false:=by simp [h4]
        have b5:(k == 5)=false:=by simp [h5]
        have b6:(k == 6)=false:=by simp [h6]
        have b7:(k == 7)=false:=by simp [h7]
        go_wp2
        go_ret
        rw [HE.out]
        exact ⟨rfl,rfl⟩
abbrev kidsM (v:Int) (t:Tm) (d b:Int):Fin (nK t)→Int × Int→Bool × (Int × Int):=fun (i:Fin (nK t)) s=>foldP (mtF v) (kidF t i) (d+1) (b+moreZ t i) s
theorem mt_long {v:Int} {t:Tm} {d b s:Int} (h:64<d∨400<s+1):foldP (mtF v) t d b (s,0)=(false,(s+1,2)):=by
 have h1:=mtF_long (v:=v) (t:=t) (b:=b) (s:=(s,0)) h
 rw [foldP_stop (by rw [h1]),h1]
theorem mt_stop {v:Int} {t:Tm} {d b s m:Int} (h:¬ (64<d∨400<s+1)) (hm:mnP v t=m) (h0:m≠0):foldP (mtF v) t d b (s,0)=(false,(s+1,m)):=by
 have h1:=mtF_node (v:=v) (t:=t) (b:=b) (s:=(s,0)) h
 rw [hm,decide_eq_false h0] at h1
 rw [foldP_stop (by rw [h1]),h1]
theorem mt_go {v:Int} {t:Tm} {d b s:Int} (h:¬ (64<d∨400<s+1)) (hm:mnP v t=0):foldP (mtF v) t d b (s,0)=runL (kidsM v t d b) (List.finRange (nK t)) (s+1,0):=by
 have h1:=mtF_node (v:=v) (t:=t) (b:=b) (s:=(s,0)) h
 rw [hm] at h1
 rw [foldP_go (by rw [h1];rfl),h1]
theorem mt_leaf {v:Int} {t:Tm} {d b s:Int} (h:¬ (64<d∨400<s+1)) (hm:mnP v t=0) (hk:arZ t.kind=0):foldP (mtF v) t d b (s,0)=(true,(s+1,0)):=by
 rw [mt_go h hm]
 have:List.finRange (nK t)=[]:=List.eq_nil_of_length_eq_zero (by simp [mn_nK hm];have:=mn_arity hm;rw [hk] at this;simpa using this)
 rw [this];rfl
theorem mt_true (v:Int) (N:Nat):∀ (t:Tm),SizeOf.sizeOf t<N→∀ (d b:Int) (s:Int × Int),((foldP (mtF v) t d b s).1=true↔(foldP (mtF v) t d b s).2.2=0):=by
 induction N with
 | zero=>intro t h;omega
 | succ N ih =>
  intro t hN d b s
  by_cases h1:(mtF v t d b s).1=true
  ·rw [foldP_go h1]
   have h0:(mtF v t d b s).2.2=0:=by
    by_cases h:64<d∨400<s.1+1
    ·rw [mtF_long h] at h1;cases h1
    ·rw [mtF_node h] at h1 ⊢;exact of_decide_eq_true h1
   have key:∀ (xs:List (Fin (nK t))) (s:Int × Int),s.2=0→((runL (kidsM v t d b) xs s).1=true↔(runL (kidsM v t d b) xs s).2.2=0):=by
    intro xs
    induction xs with
    | nil=>intro s hs;exact ⟨fun _=>hs,fun _=>rfl⟩
    | cons x r ihr =>
     intro s hs
     have hx:=ih (kidF t x) (by have:=kidF_lt t x;omega) (d+1) (b+moreZ t x) s
     rw [runL]
     by_cases hc:(kidsM v t d b x s).1=true
     ·rw [if_pos hc]
      exact ihr _ (hx.1 hc)
     ·rw [if_neg hc]
      exact ⟨fun h=>(by cases h),fun h=>absurd (hx.2 h) hc⟩
   exact key _ _ h0
  ·have h2:(mtF v t d b s).1=false:=by simpa using h1
   rw [foldP_stop h2]
   by_cases h:64<d∨400<s.1+1
   ·rw [mtF_long h];exact ⟨fun h=>(by cases h),fun h=>(by cases h)⟩
   ·rw [mtF_node h];exact ⟨fun h=>of_decide_eq_true h,fun h=>decide_eq_true h⟩
theorem drop_fin {n k:Nat} (h:k<n):(List.finRange n).drop k=⟨k,h⟩ :: (List.finRange n).drop (k+1):=by
 rw [List.drop_eq_getElem_cons (by simpa using h)]
 simp
def MtPost (w:World) (g:Nat) (r:Bool × (Int × Int)) (e:Ending) (w':World):Prop:=e=.returned (.int .i64 r.2.2)∧NumAt w' g r.2.1∧Chg (fun k=>k=g) w w'
theorem refmay_at (A:Option Addr) (c m:Nat) (k n:Int) (l:Lv) (v:Int) (w:World) (hk:l.kind=k) (hn:l.num=n) (hm:l.kids.length=m) (hin:LvIn w w.heap.size A c l) :
  Calls Try.prog 53 #[.agg #[.int .i64 k,.int .i64 n,.slice A m c],.int .i64 v] w fun e w'=>e=.returned (.int .i64 (mayB v l))∧Below w.heap.size w w':=by
 subst hk;subst hn;subst hm
 exact refMay_calls A c l v w hin
set_option maxRecDepth 100000 in
set_option maxHeartbeats 16000000 in
theorem ref_mayt (v:Int) (N:Nat):∀ (t:Tm),SizeOf.sizeOf t<N→∀ (p:Pl) (d b s:Int) (g B:Nat) (w:World),TmIn w B p t→NumAt w g s→B≤g→0≤s→s≤400→0≤d→d≤65 →
  Calls Try.prog 84 #[tmV p t,.int .i64 v,.int .i64 d,.pointer (some ⟨g,0,none⟩)] w (MtPost w g (foldP (mtF v) t d b (s,0))):=by
 induction N with
 | zero=>intro t h;omega
 | succ N ih =>
  intro t hN p d b s g B w hin hg hBg hs0 hs1 hd0 hd1
  have IH:=Ak ih
  have HNN:=Ak hN
  obtain ⟨W,hW⟩:∃ W,W=(w.setCell ⟨g,0,none⟩ (.int .i64 (s+1))).alloc (tmO p t):=⟨_,rfl⟩
  have hz1:=blk_lt hg
  have cs:=chg_set w g 0 (.int .i64 (s+1))
  have hch:Chg (fun k=>k=g) w W:=by rw [hW];exact chg_trans cs (chg_alloc _ _ _)
  have HCH:=Ak hch
  have K1:=Ak (show NumAt W g (s+1) by rw [hW];exact (hg.set _).alloc _)
  have HX:=Ak (show W.heap[w.heap.size]?=some (tmO p t) by rw [hW];have:=blk_new (w.setCell ⟨g,0,none⟩ (.int .i64 (s+1))) (tmO p t);simpa [World.setCell] using this)
  have hgz:=hg.cell
  have hfz:=blk_frozen hg 0
  have HIN:=Ak (hin.stay (hch.below (fun k e=>by omega) (by omega)))
  have hfit:=hin.fit
  have HNM:=Ak hfit.2.1
  have hll:=hin.ls.len
  have hlen:=hin.len
  simp only [Lv.kids] at hll
  have HKEEP:=Ak (show ∀ (wr:World),Chg (fun k=>k=g) w wr→∀ j,j<B→wr.heap[j]?=W.heap[j]? from fun wr hc j hj=>((hc.block j (by omega) (by omega)).trans (hch.block j (by omega) (by omega)).symm))
  clear ih hN hin hg cs hch hfit
  obtain ⟨pA,pc,pB,pd,pK,pe⟩:=p
  have HLV:=Ak HIN.out.lv.all
  have HLS:=Ak HIN.out.ls.all
  dsimp only at HLV HLS hll hlen
  unfold tmV
  unfold tmO at hW
  dsimp only
  obtain ⟨c0,c1,c2,c3,c4,c5,c6,c7⟩:=row8 HX.out
  dsimp only at c5 c6 c7
  obtain ⟨tk,htk⟩:∃ x,t.kind=x:=⟨_,rfl⟩
  obtain ⟨tn,htn⟩:∃ x,t.num=x:=⟨_,rfl⟩
  obtain ⟨nm,hnm⟩:∃ x,t.name=x:=⟨_,rfl⟩
  obtain ⟨lv,hlv⟩:∃ x,t.lv=x:=⟨_,rfl⟩
  obtain ⟨ls,hls⟩:∃ x,t.ls=x:=⟨_,rfl⟩
  obtain ⟨L,hL⟩:∃ x,t.kids.length=x:=⟨_,rfl⟩
  rw [hlv] at hW HLV c3 c4 c5 ⊢
  rw [hls] at hW HLS hll c6 ⊢
  rw [hnm] at hW HNM c2 ⊢
  rw [htk] at hW c0 ⊢
  rw [htn] at hW c1 ⊢
  rw [hL] at hW hlen c7 ⊢
  obtain ⟨lk,hlk⟩:∃ x,lv.kind=x:=⟨_,rfl⟩
  obtain ⟨ln,hln⟩:∃ x,lv.num=x:=⟨_,rfl⟩
  obtain ⟨lm,hlm⟩:∃ x,lv.kids.length=x:=⟨_,rfl⟩
  obtain ⟨M,hM⟩:∃ x,ls.length=x:=⟨_,rfl⟩
  rw [hlk] at hW c3 ⊢
  rw [hln] at hW c4 ⊢
  rw [hlm] at hW c5 ⊢
  rw [hM] at hW hll c6 ⊢
  have HTK:=Ak htk
  have HTN:=Ak htn
  have HNE:=Ak hnm
  have HLVE:=Ak hlv
  have HLSE:=Ak hls
  have HL:=Ak hL
  have HLK:=Ak hlk
  have HLN:=Ak hln
  have HLM:=Ak hlm
  have HM:=Ak hM
  have hM9:M≤9223372036854775807:=by omega
  have hL9:L≤9223372036854775807:=by omega
  clear htk htn hnm hlv hls hL hlk hln hlm hM hll hlen
  obtain ⟨ar,har⟩:∃ x,x=arZ tk:=⟨_,rfl⟩
  have HAR:=Ak har
  have harI:=arZ_in tk
  rw [← har] at harI
  have HAC:=Ak (show ∀ w,Calls Try.prog 39 #[.int .i64 tk] w fun e w'=>e=.returned (.int .i64 ar)∧w'=w from fun w=>by rw [har];exact refkids_calls _ _)
  clear har
  have HLS6:=Ak c6
  have H7:=Ak c7
  go_enter Try.func84,Try.ntmps84
  go_upto_block 0 with (fail)
  rw [← hW]
  clear hW
  have k1c:=K1.out.cell
  by_cases q:64<d∨400<s+1
  ·have HE:=Ak (mt_long (v:=v) (t:=t) (b:=b) q)
   rcases q with q | q
   ·go_wp2
    go_ret
    rw [HE.out]
    exact ⟨rfl,K1.out,HCH.out⟩
   ·by_cases q2:64<d
    ·go_wp2
     go_ret
     rw [HE.out]
     exact ⟨rfl,K1.out,HCH.out⟩
    ·go_wp2
     go_ret
     rw [HE.out]
     exact ⟨rfl,K1.out,HCH.out⟩
  have Q:=Ak q
  have q1:d≤64:=by omega
  have q2:s+1≤400:=by omega
  clear q
  by_cases h0:(L:Int)=ar
  ·have h0n:0≤ar:=by omega
   have h0':((L:Int) != ar)=false:=by simp [h0]
   have H0:=Ak (show (t.kids.length:Int)=arZ t.kind by rw [HL.out,HTK.out,← HAR.out];exact h0)
   clear h0 harI
   go_cut [] (fun w2=>Aside0 (mnP v t=0)∧Aside0 (NumAt w2 g (s+1))∧Aside0 (Chg (fun k=>k=g) w w2)∧Aside0 (w2.cell? ⟨w.heap.size,7,none⟩=some (.slice pK L pe)))
   case first =>
    by_cases k1:tk=1
    ·have e1:(tk == 1)=true:=by simp [k1]
     have e2:(tk == 2)=false:=by simp [k1]
     have e7:(tk == 7)=false:=by simp [k1]
     by_cases n0:tn<0
     ·have HR:=Ak (mn_num (v:=v) H0.out (by rw [HTK.out,HTN.out];exact ⟨k1,.inl n0⟩))
      have HE:=Ak (mt_stop (b:=b) Q.out HR.out (by decide))
      clear k1
      go_upto_region 4 with (fail)
      go_quiet ((go_at_call 39;exact Calls.quiet_of_same (HAC.out _)))
      go_wp2
      go_ret
      rw [HE.out]
      exact ⟨rfl,K1.out,chg_drewN HCH.out _⟩
     ·by_cases n1:1048576<tn
      ·have HR:=Ak (mn_num (v:=v) H0.out (by rw [HTK.out,HTN.out];exact ⟨k1,.inr n1⟩))
       have HE:=Ak (mt_stop (b:=b) Q.out HR.out (by decide))
       clear k1
       go_upto_region 4 with (fail)
       go_quiet ((go_at_call 39;exact Calls.quiet_of_same (HAC.out _)))
       go_wp2
       go_ret
       rw [HE.out]
       exact ⟨rfl,K1.out,chg_drewN HCH.out _⟩
      ·have HR:=Ak (mn_else (v:=v) H0.out (by rw [HTK.out,HTN.out];omega) (by rw [HTK.out];omega) (by rw [HTK.out];omega))
       clear k1
       go_upto_region 4 with (fail)
       go_quiet ((go_at_call 39;exact Calls.quiet_of_same (HAC.out _)))
       go_wp2
       go_meet
       case rel=>exact ⟨HR,⟨K1.out⟩,⟨chg_drewN HCH.out _⟩,⟨H7.out⟩⟩
    ·have e1:(tk == 1)=false:=by simp [k1]
     by_cases k2:tk=2
     ·have e2:(tk == 2)=true:=by simp [k2]
      have HR:=Ak (mn_sort (v:=v) H0.out (by rw [HTK.out];exact k2))
      have HZ:=Ak (show arZ t.kind=0 by rw [HTK.out,k2];decide)
      clear k1 k2
      go_upto_region 4 with (fail)
      go_quiet ((go_at_call 39;exact Calls.quiet_of_same (HAC.out _)))
      go_wp2_with (go_at_call 53;go_must (refine (refmay_at pA pc lm lk ln lv v _ HLK.out HLN.out HLM.out (by exact LvS.same HLV.out (fun _ _ _=>rfl))).mono ?_;rintro e w1 ⟨rfl,hb⟩;have HB1:=Ak hb;clear hb))
      go_ret
      have hn:NumAt w1 g (s+1):=(HB1.out.block g (blk_lt K1.out)).trans K1.out
      have hc:Chg (fun k=>k=g) w w1:=chg_trans (chg_drewN HCH.out _) (Chg.of_below HB1.out)
      have HR2:mnP v t=mayB v lv:=by rw [HR.out,HLVE.out]
      by_cases hz:mayB v lv=0
      ·rw [mt_leaf Q.out (HR2.trans hz) HZ.out,hz]
       exact ⟨rfl,hn,hc⟩
      ·rw [mt_stop Q.out HR2 hz]
       exact ⟨rfl,hn,hc⟩
     ·have e2:(tk == 2)=false:=by simp [k2]
      by_cases k7:tk=7
      ·have e7:(tk == 7)=true:=by simp [k7]
       have HC:=Ak (show mnP v t=if nameB nm=false then 8 else if 6<ls.length then 2 else mayLs v ls by rw [← HNE.out,← HLSE.out];exact mn_const H0.out (by rw [HTK.out];exact k7))
       clear k1 k2 k7
       cases hnm:nameB nm with
       | false =>
        have HE:=Ak (mt_stop (b:=b) Q.out (HC.out.trans (if_pos hnm)) (by decide))
        have HNM2:=Ak hnm
        clear hnm
        go_upto_region 4 with (fail)
        go_quiet ((go_at_call 39;exact Calls.quiet_of_same (HAC.out _)))
        go_wp2_with (go_at_call 47;go_must (refine (refname_calls nm _ HNM.out).mono ?_;rintro e w1 ⟨rfl,hb⟩;rw [HNM2.out];have HB1:=Ak hb;clear hb))
        go_ret
        rw [HE.out]
        exact ⟨rfl,(HB1.out.block g (blk_lt K1.out)).trans K1.out,chg_trans (chg_drewN HCH.out _) (Chg.of_below HB1.out)⟩
       | true =>
        have HNM2:=Ak hnm
        have HC2:=Ak (HC.out.trans (if_neg (by rw [hnm];decide)))
        clear hnm
        by_cases h6:6<M
        ·have HE:=Ak (mt_stop (b:=b) Q.out (HC2.out.trans (if_pos (by rw [HM.out];exact h6))) (by decide))
         have h6':(6:Int)<M:=by omega
         go_upto_region 4 with (fail)
         go_quiet ((go_at_call 39;exact Calls.quiet_of_same (HAC.out _)))
         go_wp2_with (go_at_call 47;go_must (refine (refname_calls nm _ HNM.out).mono ?_;rintro e w1 ⟨rfl,hb⟩;rw [HNM2.out];have c6:=(hb.cell (p:=⟨w.heap.size,6,none⟩) (blk_lt HX.out)).trans c6;have HB1:=Ak hb;clear hb))
         go_ret
         rw [HE.out]
         exact ⟨rfl,(HB1.out.block g (blk_lt K1.out)).trans K1.out,chg_trans (chg_drewN HCH.out _) (Chg.of_below HB1.out)⟩
        ·have HR:=Ak (HC2.out.trans (if_neg (by rw [HM.out];exact h6)))
         have h6':¬ ((6:Int)<M):=by omega
         clear h6
         go_upto_region 4 with (fail)
         go_quiet ((go_at_call 39;exact Calls.quiet_of_same (HAC.out _)))
         go_wp2_with (go_at_call 47;go_must (refine (refname_calls nm _ HNM.out).mono ?_;rintro e w1 ⟨rfl,hb⟩;rw [HNM2.out];have c6:=(hb.cell (p:=⟨w.heap.size,6,none⟩) (blk_lt HX.out)).trans c6;have H71:=Ak ((hb.cell (p:=⟨w.heap.size,7,none⟩) (blk_lt HX.out)).trans H7.out);have HLS1:=Ak (LvS.same HLS.out (w':=w1) (fun k _ hk=>hb.block k hk));have HB1:=Ak hb;clear hb))
         have HN1:=Ak (show NumAt w1 g (s+1) from (HB1.out.block g (blk_lt K1.out)).trans K1.out)
         have HC1:=Ak (show Chg (fun k=>k=g) w w1 from chg_trans (chg_drewN HCH.out _) (Chg.of_below HB1.out))
         have hxz:=blk_lt HX.out
         have hz2:=HB1.out.size
         clear HX K1 HCH
         go_loopw [80] (fun i wr=>∃ k:Nat,i=.int .i64 k∧k≤M∧Aside0 (mayLs v (ls.drop k)=mayLs v ls)∧Aside0 (Below w1.heap.size w1 wr)) (fun i _=>M - (intOf i).toNat)
         case atStart=>exact ⟨0,rfl,Nat.zero_le _,⟨rfl⟩,⟨Below.refl _ _⟩⟩
         case round =>
          obtain ⟨k,rfl,hk,HK,HBW⟩:=hrel
          by_cases hlt:k<M
          ·have hlt2:k<ls.length:=by rw [HM.out];exact hlt
           obtain ⟨x,hx⟩:∃ x,ls[k]?=some x:=⟨_,List.getElem?_eq_getElem hlt2⟩
           obtain ⟨A',c',hcs,hin⟩:=(LvS.same HLS1.out (w':=wr) (fun j hj _=>HBW.out.block j (Nat.lt_of_lt_of_le hj HB1.out.size))).kid k x hx
           obtain ⟨ad,rfl,d1,d2,d3⟩:=hcs.facts
           have HX:=Ak hx
           have HXIN:=Ak hin.all
           obtain ⟨xk,hxk⟩:∃ y,x.kind=y:=⟨_,rfl⟩
           obtain ⟨xn,hxn⟩:∃ y,x.num=y:=⟨_,rfl⟩
           obtain ⟨xm,hxm⟩:∃ y,x.kids.length=y:=⟨_,rfl⟩
           rw [hxk] at d1
           rw [hxn] at d2
           rw [hxm] at d3
           have HXK:=Ak hxk
           have HXN:=Ak hxn
           have HXM:=Ak hxm
           clear hcs hx hin hlt2 hxk hxn hxm
           by_cases h2:mayB v x=0
           ·have HK2:=Ak (show mayLs v (ls.drop (k+1))=mayLs v ls by rw [← HK.out,drop_kid HX.out,mayLs_go h2])
            have HV:=Ak h2
            clear h2
            go_wp2_with (go_at_call 53;go_must (refine (refmay_at A' c' xm xk xn x v _ HXK.out HXN.out HXM.out (by exact LvIn.stay' HXIN.out)).mono ?_;rintro e w2 ⟨rfl,hb⟩;rw [HV.out];have HB3:=Ak hb;clear hb))
            go_roundw
            case rel=>exact ⟨k+1,by go_num,by omega,HK2,⟨Below.trans (Below.alloc HBW.out HBW.out.size _) (HB3.out.mono (by simp;have:=HBW.out.size;omega))⟩⟩
            case measure=>(simp [intOf];try omega)
           ·have HV:=Ak (show mayLs v ls=mayB v x by rw [← HK.out,drop_kid HX.out,mayLs_stop h2])
            have HE:=Ak (mt_stop (b:=b) Q.out (HR.out.trans HV.out) h2)
            obtain ⟨e2,he2⟩:∃ e2,e2=mayB v x:=⟨_,rfl⟩
            rw [← he2] at h2 HE
            have h2':(e2 != 0)=true:=by simpa using h2
            have HE2:=Ak he2
            clear h2 he2
            go_wp2_with (go_at_call 53;go_must (refine (refmay_at A' c' xm xk xn x v _ HXK.out HXN.out HXM.out (by exact LvIn.stay' HXIN.out)).mono ?_;rintro e w2 ⟨rfl,hb⟩;rw [← HE2.out];have HB3:=Ak hb;clear hb))
            go_ret
            have hbb:Below w1.heap.size w1 w2:=Below.trans (Below.alloc HBW.out HBW.out.size _) (HB3.out.mono (by simp;have:=HBW.out.size;omega))
            rw [HE.out]
            exact ⟨rfl,(hbb.block g (blk_lt HN1.out)).trans HN1.out,chg_trans HC1.out (Chg.of_below hbb)⟩
          ·obtain rfl:k=M:=by omega
           have hlt':decide ((k:Int)<k)=false:=by simp
           have HZ:=Ak (show mnP v t=0 by rw [HR.out,← HK.out,List.drop_of_length_le (by rw [HM.out];exact Nat.le_refl _),mayLs])
           go_wp2
           go_meet
           case rel=>exact ⟨HZ,⟨(HBW.out.block g (blk_lt HN1.out)).trans HN1.out⟩,⟨chg_trans HC1.out (Chg.of_below HBW.out)⟩,⟨(HBW.out.cell (p:=⟨w.heap.size,7,none⟩) (Nat.lt_of_lt_of_le hxz hz2)).trans H71.out⟩⟩
      ·have e7:(tk == 7)=false:=by simp [k7]
       have HR:=Ak (mn_else (v:=v) H0.out (by rw [HTK.out];omega) (by rw [HTK.out];omega) (by rw [HTK.out];omega))
       clear k1 k2 k7
       go_upto_region 4 with (fail)
       go_quiet ((go_at_call 39;exact Calls.quiet_of_same (HAC.out _)))
       go_wp2
       go_meet
       case rel=>exact ⟨HR,⟨K1.out⟩,⟨chg_drewN HCH.out _⟩,⟨H7.out⟩⟩
   case rest =>
    clear HLS HLV HNM HLS6 HX c0 c1 c2 c3 c4 c5 c6 c7 k1c H7 HAC K1 HCH
    obtain ⟨HM0,K2,HC2,C7⟩:=hcut
    have HNK:=Ak (show nK t=L by rw [mn_nK HM0.out,HL.out])
    have HE:=Ak (mt_go (b:=b) Q.out HM0.out)
    have c7:=C7.out
    go_wp2
    go_loopw [94] (fun i wr=>∃ (k:Nat) (s':Int),i=.int .i64 k∧k≤L∧0≤s'∧s'≤400∧Aside0 (runL (kidsM v t d b) ((List.finRange (nK t)).drop k) (s',0)=foldP (mtF v) t d b (s,0))∧Aside0 (NumAt wr g s')∧Aside0 (Chg (fun k=>k=g) w wr)) (fun i _=>L - (intOf i).toNat)
    case atStart=>exact ⟨0,s+1,rfl,Nat.zero_le _,by omega,by omega,⟨by rw [HE.out];rfl⟩,K2,HC2⟩
    case round =>
     clear HE K2 HC2 C7 c7
     obtain ⟨k,s',rfl,hk,hs4,hs5,HE,HG1,HC1⟩:=hrel
     by_cases hlt:k<L
     ·have hkn:k<nK t:=by rw [HNK.out];exact hlt
      obtain ⟨qq,hq⟩:=(TmS.same HIN.out (w':=wr) (fun j hj hz=>HKEEP.out wr HC1.out j hj)).kid
      obtain ⟨⟨bk,o,hKa,hSb,hcells⟩,hxin⟩:=hq k _ (kidF_get t ⟨k,hkn⟩)
      have HXL:=Ak (kidF_lt t ⟨k,hkn⟩)
      have HDF:=Ak (drop_fin hkn)
      obtain ⟨x,hx⟩:∃ x,x=kidF t ⟨k,hkn⟩:=⟨_,rfl⟩
      rw [← hx] at hcells hxin HXL
      dsimp only at hKa
      subst hKa
      have e0:=hcells 0 _ rfl
      have e1:=hcells 1 _ rfl
      have e2:=hcells 2 _ rfl
      have e3:=hcells 3 _ rfl
      have e4:=hcells 4 _ rfl
      have e5:=hcells 5 _ rfl
      have e6:=hcells 6 _ rfl
      have e7:=hcells 7 _ rfl
      rw [Nat.add_zero] at e0
      have HXIN:=Ak hxin
      have HXE:=Ak hx
      obtain ⟨b2,hb2⟩:∃ b2,b2=b+moreZ t k:=⟨_,rfl⟩
      have HB2:=Ak hb2
      clear hcells hx hxin hq hb2
      have hg1z:=blk_lt HG1.out
      obtain ⟨ev,s2,m2,hev⟩:∃ ev s2 m2,foldP (mtF v) x (d+1) b2 (s',0)=(ev,(s2,m2)):=⟨_,_,_,rfl⟩
      have HEV:=Ak hev
      have HT:=Ak (mt_true v _ x (Nat.lt_succ_self _) (d+1) b2 (s',0))
      rw [hev] at HT
      have HIV:=Ak (show ev=true→InvY (s2,m2) from fun h=>by have:=foldP_inv (F:=mtF v) (Inv:=InvY) (P:=fun _ d=>0≤d∧d≤65) (fun t d b s hP hI h=>mtF_ok hP hI h) _ x (Nat.lt_succ_self _) (d+1) b2 (s',0) ⟨by omega,by omega⟩ ⟨hs4,hs5⟩ (by rw [hev];exact h);rwa [hev] at this)
      have HSTEP:=Ak (show runL (kidsM v t d b) ((List.finRange (nK t)).drop k) (s',0)=if ev=true then runL (kidsM v t d b) ((List.finRange (nK t)).drop (k+1)) (s2,m2) else (false,(s2,m2)) by
       rw [HDF.out,runL]
       have hh:kidsM v t d b ⟨k,hkn⟩ (s',0)=(ev,(s2,m2)):=by show foldP (mtF v) (kidF t ⟨k,hkn⟩) (d+1) (b+moreZ t k) (s',0)=_;rw [← HXE.out,← HB2.out];exact hev
       rw [hh])
      clear hev
      cases ev with
      | true =>
       have hm2:m2=0:=HT.out.1 rfl
       subst hm2
       obtain ⟨i1,i2⟩:=HIV.out rfl
       simp only at i1 i2
       have HK2:=Ak ((HSTEP.out.trans (if_pos rfl)).symm.trans HE.out)
       clear HT HIV HSTEP
       go_wp2_with (go_at_call 84;go_must (refine (IH.out x (by have:=HXL.out;have:=HNN.out;omega) (qq k) (d+1) b2 s' g B _ (TmIn.stay HXIN.out ((Below.refl _ _).alloc (by omega) _)) (HG1.out.alloc _) (by omega) hs4 hs5 (by omega) (by omega)).mono ?_;rintro e w3 ⟨rfl,hg1,hc1⟩;rw [HEV.out] at hg1 ⊢;have HG2:=Ak hg1;have HC3:=Ak (chg_trans HC1.out (chg_trans (chg_alloc _ _ _) hc1));clear hg1 hc1))
       go_roundw
       case rel=>exact ⟨k+1,s2,by go_num,by omega,i1,i2,HK2,HG2,HC3⟩
       case measure=>(simp [intOf];try omega)
      | false =>
       have hm2:m2≠0:=fun h=>by have:=HT.out.2 h;cases this
       have hm2':(m2 != 0)=true:=by simpa using hm2
       have HK2:=Ak ((HSTEP.out.trans (if_neg (by decide))).symm.trans HE.out)
       clear HT HIV HSTEP hm2
       go_wp2_with (go_at_call 84;go_must (refine (IH.out x (by have:=HXL.out;have:=HNN.out;omega) (qq k) (d+1) b2 s' g B _ (TmIn.stay HXIN.out ((Below.refl _ _).alloc (by omega) _)) (HG1.out.alloc _) (by omega) hs4 hs5 (by omega) (by omega)).mono ?_;rintro e w3 ⟨rfl,hg1,hc1⟩;rw [HEV.out] at hg1 ⊢;have HG2:=Ak hg1;have HC3:=Ak (chg_trans HC1.out (chg_trans (chg_alloc _ _ _) hc1));clear hg1 hc1))
       go_ret
       rw [← HK2.out]
       exact ⟨rfl,HG2.out,HC3.out⟩
     ·obtain rfl:k=L:=by omega
      have hlt':decide ((k:Int)<k)=false:=by simp
      have HZ:=Ak (show foldP (mtF v) t d b (s,0)=(true,(s',0)) by rw [← HE.out,List.drop_of_length_le (by rw [List.length_finRange,HNK.out];exact Nat.le_refl _)];rfl)
      go_wp2
      go_ret
      rw [HZ.out]
      exact ⟨rfl,HG1.out,HC1.out⟩
  ·have h0':((L:Int) != ar)=true:=by simp [h0]
   have HR:=Ak (mn_kids (v:=v) (t:=t) (by rw [HL.out,HTK.out,← HAR.out];exact h0))
   have HE:=Ak (mt_stop (b:=b) Q.out HR.out (by decide))
   clear h0
   by_cases ha:ar<0
   ·go_upto_region 4 with (fail)
    go_quiet ((go_at_call 39;exact Calls.quiet_of_same (HAC.out _)))
    go_wp2
    go_ret
    rw [HE.out]
    exact ⟨rfl,K1.out,chg_drewN HCH.out _⟩
   ·have ha':0≤ar:=by omega
    go_upto_region 4 with (fail)
    go_quiet ((go_at_call 39;exact Calls.quiet_of_same (HAC.out _)))
    go_wp2
    go_ret
    rw [HE.out]
    exact ⟨rfl,K1.out,chg_drewN HCH.out _⟩
end Go.Proofs.Ytdboloabpjmgaaa

namespace Go.Proofs.Ytdboloabpjmgaaa
open Go.RowKit Go.Proofs.YtdboloabpjmgaaaW.PrintWords Go.RegionInvYtdboloabpjmgaaa

inductive Fine:Tm→Prop
 | mk {t:Tm} (ha:(t.kids.length:Int)=arZ t.kind) (hn:t.kind=1→0≤t.num∧t.num≤1048576) (hk:∀ i:Fin (nK t),Fine (kidF t i)):Fine t
theorem Fine.num {t:Tm} (h:Fine t):t.kind=1→0≤t.num∧t.num≤1048576:=by cases h;assumption
theorem Fine.kid {t:Tm} (h:Fine t):∀ i:Fin (nK t),Fine (kidF t i):=by cases h;assumption
theorem mn_num0 {v:Int} {t:Tm} (h:mnP v t=0) (h1:t.kind=1):0≤t.num∧t.num≤1048576:=by
 have ha:=mn_arity h
 refine Classical.byContradiction fun hn=>?_
 rw [mn_num ha ⟨h1,by omega⟩] at h
 cases h
theorem may_fine (v:Int) (N:Nat):∀ (t:Tm),SizeOf.sizeOf t<N→∀ (d b n:Int),(foldP (mtF v) t d b (n,0)).1=true →
  Fine t∧d+depthT t≤65∧n+sizeT t≤400∧(foldP (mtF v) t d b (n,0)).2=(n+sizeT t,0):=by
 induction N with
 | zero=>intro t h;omega
 | succ N ih =>
  intro t hN d b n h
  by_cases hl:64<d∨400<n+1
  ·rw [mt_long hl] at h;cases h
  ·by_cases hm:mnP v t=0
   ·rw [mt_go hl hm] at h ⊢
    have key:∀ (xs:List (Fin (nK t))) (n:Int),(runL (kidsM v t d b) xs (n,0)).1=true →
      (∀ x∈xs,Fine (kidF t x)∧d+1+depthT (kidF t x)≤65)∧(n≤400→n+sumK t xs≤400)∧(runL (kidsM v t d b) xs (n,0)).2=(n+sumK t xs,0):=by
     intro xs
     induction xs with
     | nil =>
      intro n _
      refine ⟨(fun x hx=>by cases hx),(fun h=>by simp [sumK];omega),?_⟩
      refine Prod.ext ?_ rfl
      show n=n+((sumK t []:Nat):Int)
      simp [sumK]
     | cons x r ihr =>
      intro n hm
      rw [runL] at hm ⊢
      by_cases hc:(kidsM v t d b x (n,0)).1=true
      ·rw [if_pos hc] at hm ⊢
       have h4:=ih (kidF t x) (by have:=kidF_lt t x;omega) (d+1) (b+moreZ t x) n hc
       have h42:(kidsM v t d b x (n,0)).2=(n+sizeT (kidF t x),0):=h4.2.2.2
       rw [h42] at hm ⊢
       have h5:=ihr _ hm
       have e1:sumK t (x :: r)=sizeT (kidF t x)+sumK t r:=by unfold sumK;rw [List.map_cons,List.sum_cons]
       refine ⟨fun y hy=>?_,fun hn=>?_,?_⟩
       ·rcases List.mem_cons.1 hy with rfl | hy
        ·exact ⟨h4.1,h4.2.1⟩
        ·exact h5.1 y hy
       ·have:=h5.2.1 h4.2.2.1;rw [e1];push_cast;omega
       ·rw [h5.2.2,e1]
        refine Prod.ext ?_ rfl
        show n+(sizeT (kidF t x):Int)+(sumK t r:Int)=n+((sizeT (kidF t x)+sumK t r:Nat):Int)
        push_cast
        omega
      ·rw [if_neg hc] at hm;cases hm
    have h2:=key _ _ h
    have hd:d+depthT t≤65:=by
     rw [depth_eq]
     have:maxK t (List.finRange (nK t))≤(64 - d).toNat:=by
      refine max_le_of fun x hx=>?_
      obtain ⟨i,hi,rfl⟩:=List.mem_map.1 hx
      have:=(h2.1 i hi).2
      omega
     omega
    have h4:=h2.2.1 (by omega)
    refine ⟨.mk (mn_arity hm) (mn_num0 hm) fun i=>(h2.1 i (List.mem_finRange i)).1,hd,by rw [size_eq];push_cast;omega,?_⟩
    rw [h2.2.2,size_eq]
    refine Prod.ext ?_ rfl
    show n+1+(sumK t (List.finRange (nK t)):Int)=n+((1+sumK t (List.finRange (nK t)):Nat):Int)
    push_cast
    omega
   ·rw [mt_stop hl rfl hm] at h;cases h
theorem may_ok {v:Int} {t:Tm} (h:mayT v t=0):Fine t∧depthT t≤64∧sizeT t≤400:=by
 have h1:=(mt_true v _ t (Nat.lt_succ_self _) 1 0 (0,0)).2 h
 have h2:=may_fine v _ t (Nat.lt_succ_self _) 1 0 0 h1
 exact ⟨h2.1,by omega,by omega⟩
theorem map_fin_eq {α:Type} {n m:Nat} (h:n=m) (f:Fin n→α) (g:Fin m→α) (hfg:∀ (i:Nat) (h1:i<n) (h2:i<m),f ⟨i,h1⟩=g ⟨i,h2⟩):(List.finRange n).map f=(List.finRange m).map g:=by
 subst h
 exact List.map_congr_left fun i _=>hfg i.1 i.2 i.2
theorem nK_none {t:Tm} (h:t.kids=[]):nK t=0:=by have:=nK_le t;rw [h] at this;exact Nat.le_zero.1 this
theorem fin_none {t:Tm} (h:nK t=0):List.finRange (nK t)=[]:=List.eq_nil_of_length_eq_zero (by rw [List.length_finRange];exact h)
end Go.Proofs.Ytdboloabpjmgaaa

namespace Go.Proofs.Ytdboloabpjmgaaa
open Go.RowKit Go.Proofs.YtdboloabpjmgaaaW.PrintWords Go.RegionInvYtdboloabpjmgaaa

def overT (RF:Tm→Int→Tm) (t:Tm) (b:Int):Tm:=.mk t.kind 0 noName (.mk 0 0 []) [] (rebKids RF t b (List.finRange (nK t)))
theorem reb_over {RF:Tm→Int→Tm} {t:Tm} {b:Int} (h:leafT t=false):rebP RF t b=overT RF t b:=reb_node h
theorem leaf_nK {t:Tm} (h:leafT t=true):nK t=0:=of_decide_eq_true h
theorem leaf_nK' {t:Tm} (h:leafT t=false):nK t≠0:=of_decide_eq_false h
theorem nK_ar {t:Tm} (h:nK t≠0):(nK t:Int)=arZ t.kind:=by
 unfold nK at h ⊢
 split
 ·rename_i h2;rw [if_pos h2] at h;exact absurd rfl h
 ·rename_i h2;rw [if_neg h2] at h;omega
theorem over_len (RF:Tm→Int→Tm) (t:Tm) (b:Int):(overT RF t b).kids.length=nK t:=by
 show (rebKids RF t b (List.finRange (nK t))).length=nK t
 rw [rebKids_len,List.length_finRange]
theorem over_nK {RF:Tm→Int→Tm} {t:Tm} {b:Int} (h:leafT t=false):nK (overT RF t b)=nK t:=by
 have h1:=nK_ar (leaf_nK' h)
 have h2:=over_len RF t b
 show (if ((overT RF t b).kids.length:Int)<arZ t.kind then 0 else (arZ t.kind).toNat)=nK t
 rw [h2,if_neg (by omega)]
 omega
theorem over_leaf {RF:Tm→Int→Tm} {t:Tm} {b:Int} (h:leafT t=false):leafT (overT RF t b)=false:=by
 unfold leafT
 rw [over_nK h]
 exact decide_eq_false (leaf_nK' h)
theorem over_get {RF:Tm→Int→Tm} {t:Tm} {b:Int} (i:Nat) (h2:i<nK t):(overT RF t b).kids[i]?=some (rebP RF (kidF t ⟨i,h2⟩) (b+moreZ t i)):=by
 show (rebKids RF t b (List.finRange (nK t)))[i]?=_
 unfold rebKids
 rw [List.getElem?_map,List.getElem?_eq_getElem (by rw [List.length_finRange];exact h2)]
 simp
theorem over_kid {RF:Tm→Int→Tm} {t:Tm} {b:Int} (i:Nat) (h1:i<nK (overT RF t b)) (h2:i<nK t):kidF (overT RF t b) ⟨i,h1⟩=rebP RF (kidF t ⟨i,h2⟩) (b+moreZ t i):=by
 have e1:=kidF_get (overT RF t b) ⟨i,h1⟩
 rw [over_get i h2] at e1
 exact (Option.some.inj e1).symm
theorem over_more (RF:Tm→Int→Tm) (t:Tm) (b:Int) (i:Nat):moreZ (overT RF t b) i=moreZ t i:=rfl
theorem reb_reb (F G:Tm→Int→Tm) (k:Int) (N:Nat):∀ (t:Tm),SizeOf.sizeOf t<N→∀ (b c:Int),c=b+k→rebP G (rebP F t b) c=rebP (fun x e=>rebP G (F x e) (e+k)) t b:=by
 induction N with
 | zero=>intro t h;omega
 | succ N ih =>
  intro t hN b c hc
  cases hl:leafT t with
  | true=>rw [reb_leaf hl,reb_leaf hl,hc]
  | false =>
   rw [reb_over hl,reb_over (over_leaf hl),reb_over hl]
   show Tm.mk t.kind 0 noName (.mk 0 0 []) [] (rebKids G (overT F t b) c (List.finRange (nK (overT F t b))))=Tm.mk t.kind 0 noName (.mk 0 0 []) [] (rebKids (fun x e=>rebP G (F x e) (e+k)) t b (List.finRange (nK t)))
   congr 1
   unfold rebKids
   refine map_fin_eq (over_nK hl) _ _ fun i h1 h2=>?_
   rw [over_kid i h1 h2,over_more]
   exact ih (kidF t ⟨i,h2⟩) (by have:=kidF_lt t ⟨i,h2⟩;omega) _ _ (by show c+moreZ t i=b+moreZ t i+k;omega)
theorem reb2 (F G:Tm→Int→Tm) (t:Tm) (b:Int):rebP G (rebP F t b) b=rebP (fun x e=>rebP G (F x e) e) t b:=by
 have h:=reb_reb F G 0 _ t (Nat.lt_succ_self _) b b (by omega)
 simpa using h
inductive AllL (P:Tm→Int→Prop):Tm→Int→Prop
 | leaf {t:Tm} {b:Int} (h:leafT t=true) (hp:P t b):AllL P t b
 | node {t:Tm} {b:Int} (h:leafT t=false) (hk:∀ i:Fin (nK t),AllL P (kidF t i) (b+moreZ t i)):AllL P t b
theorem AllL.mono {P Q:Tm→Int→Prop} {t:Tm} {b:Int} (h:AllL P t b) (f:∀ x e,leafT x=true→P x e→Q x e):AllL Q t b:=by
 induction h with
 | leaf hl hp=>exact .leaf hl (f _ _ hl hp)
 | node hl _ ih=>exact .node hl ih
theorem all_of (P:Tm→Int→Prop) (N:Nat) (hP:∀ x e,leafT x=true→P x e):∀ (t:Tm),SizeOf.sizeOf t<N→∀ b,AllL P t b:=by
 induction N with
 | zero=>intro t h;omega
 | succ N ih =>
  intro t hN b
  cases hl:leafT t with
  | true=>exact .leaf hl (hP _ _ hl)
  | false=>exact .node hl fun i=>ih _ (by have:=kidF_lt t i;omega) _
theorem reb_congr {F G:Tm→Int→Tm} {t:Tm} {b:Int} (h:AllL (fun x e=>F x e=G x e) t b):rebP F t b=rebP G t b:=by
 induction h with
 | leaf hl hp=>rw [reb_leaf hl,reb_leaf hl,hp]
 | @node t b hl _ ih =>
  rw [reb_over hl,reb_over hl]
  show Tm.mk t.kind 0 noName (.mk 0 0 []) [] (rebKids F t b (List.finRange (nK t)))=Tm.mk t.kind 0 noName (.mk 0 0 []) [] (rebKids G t b (List.finRange (nK t)))
  congr 1
  exact List.map_congr_left fun i _=>ih i
theorem sum_lin {α:Type} (xs:List α) (f g h:α→Nat) (k:Nat) (hf:∀ x∈xs,f x=g x+k * h x):(xs.map f).sum=(xs.map g).sum+k * (xs.map h).sum:=by
 induction xs with
 | nil=>simp
 | cons x r ih =>
  rw [List.map_cons,List.map_cons,List.map_cons,List.sum_cons,List.sum_cons,List.sum_cons,ih fun y hy=>hf y (List.mem_cons_of_mem _ hy),hf x (List.mem_cons_self ..),Nat.mul_add]
  omega
theorem occ_node {t:Tm} (h:leafT t=false) (b:Int):occT t b=occK t b (List.finRange (nK t)):=by
 rw [occ_eq]
 have h1:t.kind≠1:=fun e=>leaf_nK' h (by
  unfold nK
  rw [e]
  split
  ·rfl
  ·rfl)
 rw [if_neg (by unfold hitB;simp [h1]),Nat.zero_add]
theorem reb_size {F:Tm→Int→Tm} {k:Nat} {t:Tm} {b:Int} (h:AllL (fun x e=>sizeT (F x e)=1+k * (if hitB x e=true then 1 else 0)) t b):sizeT (rebP F t b)=sizeT t+k * occT t b:=by
 induction h with
 | leaf hl hp =>
  rw [reb_leaf hl,hp,size_leaf (leaf_nK hl),occ_leaf (leaf_nK hl)]
 | @node t b hl _ ih =>
  rw [reb_over hl,occ_node hl,sizeT.eq_def (overT F t b),sizeT.eq_def t,map_fin_eq (over_nK hl) (fun i=>sizeT (kidF (overT F t b) i)) (fun i=>sizeT (rebP F (kidF t i) (b+moreZ t i))) fun i h1 h2=>by rw [over_kid i h1 h2]]
  unfold occK
  rw [sum_lin _ _ (fun i=>sizeT (kidF t i)) (fun i=>occT (kidF t i) (b+moreZ t i)) k fun i _=>ih i]
  omega
theorem max_le_add {α:Type} (xs:List α) (f g:α→Nat) (k:Nat) (hf:∀ x∈xs,f x≤g x+k):(xs.map f).foldr max 0≤(xs.map g).foldr max 0+k:=by
 refine max_le_of fun x hx=>?_
 obtain ⟨i,hi,rfl⟩:=List.mem_map.1 hx
 have:=le_max_of (l:=xs.map g) (x:=g i) (List.mem_map.2 ⟨i,hi,rfl⟩)
 have:=hf i hi
 omega
theorem reb_depth {F:Tm→Int→Tm} {k:Nat} {t:Tm} {b:Int} (h:AllL (fun x e=>depthT (F x e)≤1+k) t b):depthT (rebP F t b)≤depthT t+k:=by
 induction h with
 | leaf hl hp=>rw [reb_leaf hl,depth_leaf (leaf_nK hl)];exact hp
 | @node t b hl _ ih =>
  rw [reb_over hl,depthT.eq_def (overT F t b),depthT.eq_def t,map_fin_eq (over_nK hl) (fun i=>depthT (kidF (overT F t b) i)) (fun i=>depthT (rebP F (kidF t i) (b+moreZ t i))) fun i h1 h2=>by rw [over_kid i h1 h2]]
  have:=max_le_add (List.finRange (nK t)) (fun i=>depthT (rebP F (kidF t i) (b+moreZ t i))) (fun i=>depthT (kidF t i)) k fun i _=>ih i
  omega
end Go.Proofs.Ytdboloabpjmgaaa

namespace Go.Proofs.Ytdboloabpjmgaaa
open Go.RowKit Go.Proofs.YtdboloabpjmgaaaW.PrintWords Go.RegionInvYtdboloabpjmgaaa

def lvsEq:List Lv→List Lv→Bool
 | [],[]=>true
 | x :: r,y :: s=>eqP x y && lvsEq r s
 | _,_=>false
def hdB (a b:Tm):Bool:=decide (a.kind=b.kind) && (leafR a == leafR b) && (leafR a || (if a.kind=1 then decide (a.num=b.num) else if a.kind=2 then eqP a.lv b.lv else if a.kind=7 then (a.name.toList == b.name.toList) && lvsEq a.ls b.ls else true))
def sameT (a b:Tm):Bool:=hdB a b && (List.finRange (nK a)).all fun i=>sameT (kidF a i) (b.kids.getD i.1 default)
termination_by SizeOf.sizeOf a
decreasing_by exact kidF_lt a i
def SameT (a b:Tm):Bool:=decide (okT a) && decide (okT b) && sameT a b
theorem same_eq (a b:Tm):sameT a b=(hdB a b && (List.finRange (nK a)).all fun i=>sameT (kidF a i) (b.kids.getD i.1 default)):=by rw [sameT]
theorem same_leaf {a b:Tm} (h:leafT a=true):sameT a b=hdB a b:=by
 rw [same_eq,fin_none (leaf_nK h)]
 simp
theorem eqP_self {l:Lv} (h:soundB l=true):eqP l l=true:=by rw [eqP_3 h h];exact decide_eq_true rfl
theorem eqP_own {l:Lv} (h:soundB l=true) (h2:soundB (owP l)=true):eqP (owP l) l=true:=by rw [eqP_3 h2 h,own_sum h];exact decide_eq_true rfl
theorem lvsEq_self:∀ {ls:List Lv},(∀ l∈ls,soundB l=true)→lvsEq ls ls=true
 | [],_=>rfl
 | x :: r,h=>by
  show (eqP x x && lvsEq r r)=true
  rw [eqP_self (h x (List.mem_cons_self ..)),lvsEq_self fun l hl=>h l (List.mem_cons_of_mem _ hl)]
  rfl
theorem lvsEq_own:∀ {ls:List Lv},(∀ l∈ls,soundB l=true)→(∀ l∈ls,soundB (owP l)=true)→lvsEq (ls.map owP) ls=true
 | [],_,_=>rfl
 | x :: r,h,k=>by
  show (eqP (owP x) x && lvsEq (r.map owP) r)=true
  rw [eqP_own (h x (List.mem_cons_self ..)) (k x (List.mem_cons_self ..)),lvsEq_own (fun l hl=>h l (List.mem_cons_of_mem _ hl)) fun l hl=>k l (List.mem_cons_of_mem _ hl)]
  rfl
mutual
theorem cp_cp:(l:Lv)→cpP (cpP l)=cpP l
 | .mk k n ks=>by
  rw [cpP,cpP,cps_cps ks]
  split <;> rfl
theorem cps_cps:(ks:List Lv)→cpKs (cpKs ks)=cpKs ks
 | []=>by rw [cpKs,cpKs]
 | x :: r=>by rw [cpKs,cpKs,cp_cp x,cps_cps r]
end
theorem own_own {l:Lv} (h:soundB l=true):owP (owP l)=owP l:=by rw [owP_sound (own_sound h),owP_sound h,cp_cp]
structure LfOk (x:Tm):Prop where
 lv:x.kind=2→soundB x.lv=true
 ls:x.kind=7→∀ l∈x.ls,soundB l=true
theorem leafR_node {t:Tm} (h:leafT t=false):leafR t=false:=by
 cases hr:leafR t with
 | false=>rfl
 | true=>exact absurd (nK_leaf hr) (leaf_nK' h)
theorem kind_node {t:Tm} (h:leafT t=false):t.kind≠1∧t.kind≠2∧t.kind≠7:=by
 have:=nK_ar (leaf_nK' h)
 have h0:=leaf_nK' h
 refine ⟨fun e=>?_,fun e=>?_,fun e=>?_⟩ <;> (rw [e] at this;have e2:(nK t:Int)=0:=this;omega)
theorem hd_node {a b:Tm} (ha:leafT a=false) (hb:leafT b=false) (hk:a.kind=b.kind):hdB a b=true:=by
 unfold hdB
 obtain ⟨k1,k2,k7⟩:=kind_node ha
 rw [leafR_node ha,leafR_node hb,if_neg k1,if_neg k2,if_neg k7,decide_eq_true hk]
 rfl
theorem hd_self {x:Tm} (h:LfOk x):hdB x x=true:=by
 unfold hdB
 rw [decide_eq_true rfl]
 cases leafR x with
 | true=>rfl
 | false =>
  by_cases k1:x.kind=1
  ·rw [if_pos k1];simp
  ·by_cases k2:x.kind=2
   ·rw [if_neg k1,if_pos k2,eqP_self (h.lv k2)];rfl
   ·by_cases k7:x.kind=7
    ·rw [if_neg k1,if_neg k2,if_pos k7,lvsEq_self (h.ls k7)];simp
    ·rw [if_neg k1,if_neg k2,if_neg k7];rfl
theorem node_leafR {x:Tm} (hl:leafT x=true):leafR (nodeP x)=leafR x:=by
 have h0:=leaf_nK hl
 unfold leafR
 have e:(nodeP x).kids.length=0:=rfl
 have ek:(nodeP x).kind=x.kind:=rfl
 rw [e,ek]
 unfold nK at h0
 have:=arZ_in x.kind
 congr 1
 simp only [eq_iff_iff]
 split at h0
 ·omega
 ·omega
theorem hd_node_own {x:Tm} (hl:leafT x=true) (h:LfOk x):hdB (nodeP x) x=true:=by
 unfold hdB
 rw [node_leafR hl,show (nodeP x).kind=x.kind from rfl,decide_eq_true rfl]
 cases leafR x with
 | true=>rfl
 | false =>
  by_cases k1:x.kind=1
  ·rw [if_pos k1];unfold nodeP;simp [k1,Tm.num]
  ·by_cases k2:x.kind=2
   ·rw [if_neg k1,if_pos k2]
    have e:(nodeP x).lv=owP x.lv:=by unfold nodeP;simp [k2,Tm.lv]
    rw [e,eqP_own (h.lv k2) (own_sound (h.lv k2))];rfl
   ·by_cases k7:x.kind=7
    ·rw [if_neg k1,if_neg k2,if_pos k7]
     have e:(nodeP x).ls=x.ls.map owP:=by unfold nodeP;simp [k7,Tm.ls]
     have e2:(nodeP x).name=x.name:=by unfold nodeP;simp [k7,Tm.name]
     rw [e,e2,lvsEq_own (h.ls k7) (fun l hl=>own_sound (h.ls k7 l hl))];simp
    ·rw [if_neg k1,if_neg k2,if_neg k7];rfl
theorem nK_nodeP (x:Tm):nK (nodeP x)=0:=nK_none rfl
theorem leafT_of {x:Tm} (h:nK x=0):leafT x=true:=decide_eq_true h
theorem same_reb {F:Tm→Int→Tm} {t:Tm} {b:Int} (h:AllL (fun x e=>sameT (F x e) x=true) t b):sameT (rebP F t b) t=true:=by
 induction h with
 | leaf hl hp=>rw [reb_leaf hl];exact hp
 | @node t b hl _ ih =>
  rw [reb_over hl,same_eq,hd_node (over_leaf hl) hl rfl,Bool.true_and,List.all_eq_true]
  intro i _
  have h2:i.1<nK t:=Nat.lt_of_lt_of_le i.2 (Nat.le_of_eq (over_nK hl))
  rw [show i=⟨i.1,i.2⟩ from rfl,over_kid i.1 i.2 h2,List.getD_eq_getElem?_getD,kidF_get t ⟨i.1,h2⟩]
  exact ih ⟨i.1,h2⟩
theorem same_self {t:Tm} {b:Int} (h:AllL (fun x _=>LfOk x) t b):sameT t t=true:=by
 induction h with
 | leaf hl hp=>rw [same_leaf hl];exact hd_self hp
 | @node t b hl _ ih =>
  rw [same_eq,hd_node hl hl rfl,Bool.true_and,List.all_eq_true]
  intro i _
  rw [List.getD_eq_getElem?_getD,kidF_get t i]
  exact ih i
abbrev canT (t:Tm) (b:Int):Tm:=rebP (fun t _=>nodeP t) t b
theorem same_can {t:Tm} {b:Int} (h:AllL (fun x _=>LfOk x) t b):sameT (canT t b) t=true:=
 same_reb (h.mono fun x e hl hx=>by rw [same_leaf (leafT_of (nK_nodeP x))];exact hd_node_own hl hx)
theorem nodeP_mk (k n:Int) (nm:ByteArray) (lv:Lv) (ls:List Lv) (ks:List Tm):nodeP (.mk k n nm lv ls ks)=.mk k (if k=1 then n else 0) (if k=7 then nm else noName) (if k=2 then owP lv else .mk 0 0 []) (if k=7 then ls.map owP else []) []:=rfl
theorem node_node {x:Tm} (h:LfOk x):nodeP (nodeP x)=nodeP x:=by
 obtain ⟨k,n,nm,lv,ls,ks⟩:=x
 have h1:=h.lv
 have h7:=h.ls
 simp only [Tm.kind,Tm.lv,Tm.ls] at h1 h7
 rw [nodeP_mk,nodeP_mk]
 congr 1
 ·by_cases k1:k=1
  ·simp [k1]
  ·simp [k1]
 ·by_cases k1:k=7
  ·simp [k1]
  ·simp [k1]
 ·by_cases k2:k=2
  ·simp only [if_pos k2,own_own (h1 k2)]
  ·simp only [if_neg k2]
 ·by_cases k7:k=7
  ·simp only [if_pos k7,List.map_map]
   exact List.map_congr_left fun l hl=>own_own (h7 k7 l hl)
  ·simp only [if_neg k7]
theorem arity_p (l:Lv) {a b c d:Int} (hab:a≤b) (h:rightP l a c=true) (hk:l.kind=2→rightP l b d=true):rightP l b d=true:=by
 by_cases k2:l.kind=2
 ·exact hk k2
 ·obtain ⟨k,n,ks⟩:=l
  have k2:k≠2:=k2
  by_cases ha:(ks.length:Int)=arityP k
  ·by_cases k1:k=1
   ·subst k1;rw [right_num ha] at h ⊢;have:=of_decide_eq_true h;exact decide_eq_true (by omega)
   ·by_cases k3:k=3
    ·subst k3;rw [right_succ ha] at h ⊢;have:=of_decide_eq_true h;exact decide_eq_true (by omega)
    ·exact right_else ha k1 k2 k3
  ·rw [right_bad ha] at h;cases h
theorem mayF_snd {v:Int} (hv:v≤1001) {l:Lv} {d s:Int} (h0:0≤s) (h:(mayF v l d s).1=0):sndF l d s=(0,s+1)∧mayF v l d s=(0,s+1):=by
 have h1:=mayF_small' h0 h
 refine ⟨sndF_ok ?_,h1.2.2.2⟩
 have hr:rightP l 1099511627776 1000=true:=by
  by_cases h3:32<d∨100<s+1
  ·rw [mayF_long h3] at h;cases h
  ·by_cases h2:l.kind=2∧l.kids=[]
   ·rw [mayF_var h3 h2] at h
    obtain ⟨k,n,ks⟩:=l
    obtain ⟨e1,e2⟩:=h2
    have e1:k=2:=e1
    have e2:ks=[]:=e2
    subst e1 e2
    rw [right_var rfl]
    split at h
    ·cases h
    ·rename_i hn
     simp only [Lv.num] at hn
     exact decide_eq_true (by omega)
   ·rw [mayF_rest h3 h2] at h
    cases hrr:rightP l 1048576 0 with
    | false=>rw [hrr] at h;cases h
    | true =>
     refine arity_p l (by decide) hrr fun k2=>?_
     exfalso
     apply h2
     refine ⟨k2,?_⟩
     obtain ⟨k,n,ks⟩:=l
     have k2:k=2:=k2
     subst k2
     by_cases ha:(ks.length:Int)=arityP 2
     ·have e2:arityP 2=0:=by decide
      show ks=[]
      exact List.eq_nil_of_length_eq_zero (by omega)
     ·rw [right_bad ha] at hrr;cases hrr
 rw [hr]
 have:=h1.1
 have:=h1.2.1
 simp
 omega
mutual
theorem walk_snd {v:Int} (hv:v≤1001):(l:Lv)→(d s:Int)→0≤s→(walkP (mayF v) l d s).1=0→walkP sndF l d s=walkP (mayF v) l d s
 | .mk k n ks,d,s,h0,h=>by
  by_cases h1:(mayF v (.mk k n ks) d s).1=0
  ·have h2:=mayF_snd hv h0 h1
   rw [walkP_go h1,h2.2] at h ⊢
   rw [walkP_go (by rw [h2.1]),h2.1]
   exact walks_snd hv ks (d+1) (s+1) (by omega) h
  ·rw [walkP_stop h1] at h;exact absurd h h1
theorem walks_snd {v:Int} (hv:v≤1001):(ks:List Lv)→(d s:Int)→0≤s→(walkKs (mayF v) ks d s).1=0→walkKs sndF ks d s=walkKs (mayF v) ks d s
 | [],_,_,_,_=>rfl
 | y :: r,d,s,h0,h=>by
  by_cases h2:(walkP (mayF v) y d s).1=0
  ·rw [walkKs_go h2] at h
   have h3:=walkP_small (mayF_small v) y d s h0 h2
   have h4:=walk_snd hv y d s h0 h2
   rw [walkKs_go (by rw [h4];exact h2),walkKs_go h2,h4]
   exact walks_snd hv r d _ h3.1 h
  ·rw [walkKs_stop h2] at h;exact absurd h h2
end
theorem mayB_sound {v:Int} (hv:v≤1001) {l:Lv} (h:mayB v l=0):soundB l=true:=by
 unfold soundB
 rw [walk_snd hv l 1 0 (by decide) h]
 unfold mayB at h
 rw [h]
 rfl
theorem mayLs_all {v:Int}:∀ {ls:List Lv},mayLs v ls=0→∀ l∈ls,mayB v l=0
 | [],_=>fun l hl=>by cases hl
 | x :: r,h=>by
  by_cases h1:mayB v x=0
  ·rw [mayLs_go h1] at h
   intro l hl
   rcases List.mem_cons.1 hl with rfl | hl
   ·exact h1
   ·exact mayLs_all h l hl
  ·rw [mayLs_stop h1] at h;exact absurd h h1
inductive MayN (v:Int):Tm→Prop
 | mk {t:Tm} (h:mnP v t=0) (hk:∀ i:Fin (nK t),MayN v (kidF t i)):MayN v t
theorem may_nodes (v:Int) (N:Nat):∀ (t:Tm),SizeOf.sizeOf t<N→∀ (d b n:Int),(foldP (mtF v) t d b (n,0)).1=true→MayN v t:=by
 induction N with
 | zero=>intro t h;omega
 | succ N ih =>
  intro t hN d b n h
  by_cases hl:64<d∨400<n+1
  ·rw [mt_long hl] at h;cases h
  ·by_cases hm:mnP v t=0
   ·rw [mt_go hl hm] at h
    have key:∀ (xs:List (Fin (nK t))) (n:Int),(runL (kidsM v t d b) xs (n,0)).1=true→∀ x∈xs,MayN v (kidF t x):=by
     intro xs
     induction xs with
     | nil=>intro n _ x hx;cases hx
     | cons x r ihr =>
      intro n hm
      rw [runL] at hm
      by_cases hc:(kidsM v t d b x (n,0)).1=true
      ·rw [if_pos hc] at hm
       have h4:=may_fine v _ (kidF t x) (Nat.lt_succ_self _) (d+1) (b+moreZ t x) n hc
       have h42:(kidsM v t d b x (n,0)).2=(n+sizeT (kidF t x),0):=h4.2.2.2
       rw [h42] at hm
       intro y hy
       rcases List.mem_cons.1 hy with rfl | hy
       ·exact ih _ (by have:=kidF_lt t y;omega) _ _ _ hc
       ·exact ihr _ hm y hy
      ·rw [if_neg hc] at hm;cases hm
    exact .mk hm fun i=>key _ _ h i (List.mem_finRange i)
   ·rw [mt_stop hl rfl hm] at h;cases h
theorem may_lf {v:Int} (hv:v≤1001) {t:Tm} (h:MayN v t):∀ b,AllL (fun x _=>LfOk x∧(x.kind=1→0≤x.num∧x.num≤1048576)) t b:=by
 induction h with
 | @mk t hm _ ih =>
  intro b
  cases hl:leafT t with
  | true =>
   refine .leaf hl ⟨⟨fun k=>?_,fun k=>?_⟩,fun k=>mn_num0 hm k⟩
   ·rw [mn_sort (mn_arity hm) k] at hm;exact mayB_sound hv hm
   ·rw [mn_const (mn_arity hm) k] at hm
    split at hm
    ·cases hm
    ·split at hm
     ·cases hm
     ·exact fun l hl=>mayB_sound hv (mayLs_all hm l hl)
  | false=>exact .node hl fun i=>ih i _
structure Whole (t:Tm):Prop where
 lf:∀ b,AllL (fun x _=>LfOk x) t b
 num:∀ b,AllL (fun x _=>x.kind=1→0≤x.num∧x.num≤1048576) t b
 fine:Fine t
 depth:depthT t≤64
 size:sizeT t≤400
 may:MayN 6 t
theorem whole_of {t:Tm} (h:mayT 6 t=0):Whole t:=by
 have h1:=(mt_true 6 _ t (Nat.lt_succ_self _) 1 0 (0,0)).2 h
 have h2:=may_nodes 6 _ t (Nat.lt_succ_self _) 1 0 0 h1
 have h3:=may_ok h
 exact ⟨fun b=>(may_lf (by decide) h2 b).mono fun _ _ _ h=>h.1,fun b=>(may_lf (by decide) h2 b).mono fun _ _ _ h=>h.2,h3.1,h3.2.1,h3.2.2,h2⟩
theorem Whole.ok {t:Tm} (h:Whole t):okT t:=⟨by have:=h.size;omega,by have:=h.depth;omega⟩
end Go.Proofs.Ytdboloabpjmgaaa

namespace Go.Proofs.Ytdboloabpjmgaaa
open Go.RowKit Go.Proofs.YtdboloabpjmgaaaW.PrintWords Go.RegionInvYtdboloabpjmgaaa Go.RegionEYtdboloabpjmgaaa

inductive VarL (m:Int):Lv→Prop
 | mk {k n:Int} {ks:List Lv} (h:k=2→n<m) (hk:∀ x∈ks,VarL m x):VarL m (.mk k n ks)
inductive NumL:Lv→Prop
 | mk {k n:Int} {ks:List Lv} (h:k=1∨k=3→n≤1048576) (hk:∀ x∈ks,NumL x):NumL (.mk k n ks)
theorem VarL.kid {m k n:Int} {ks:List Lv} (h:VarL m (.mk k n ks)):∀ x∈ks,VarL m x:=by cases h;assumption
theorem VarL.num {m k n:Int} {ks:List Lv} (h:VarL m (.mk k n ks)) (hk:k=2):n<m:=by cases h with | mk h _=>exact h hk
theorem NumL.kid {k n:Int} {ks:List Lv} (h:NumL (.mk k n ks)):∀ x∈ks,NumL x:=by cases h;assumption
theorem NumL.num {k n:Int} {ks:List Lv} (h:NumL (.mk k n ks)) (hk:k=1∨k=3):n≤1048576:=by cases h with | mk h _=>exact h hk
theorem mayF_node {v:Int} {k n:Int} {ks:List Lv} {d s:Int} (h0:0≤s) (h:(mayF v (.mk k n ks) d s).1=0):(k=2→n<v)∧(k=1∨k=3→n≤1048576)∧mayF v (.mk k n ks) d s=(0,s+1)∧s+1≤100:=by
 have h1:=mayF_small' h0 h
 have h3:¬ (32<d∨100<s+1):=by omega
 refine ⟨fun hk=>?_,fun hk=>?_,h1.2.2.2,h1.1⟩
 ·subst hk
  by_cases h2:(Lv.mk 2 n ks).kind=2∧(Lv.mk 2 n ks).kids=[]
  ·rw [mayF_var h3 h2] at h
   split at h
   ·cases h
   ·rename_i hn
    simp only [Lv.num] at hn
    omega
  ·exfalso
   rw [mayF_rest h3 h2] at h
   have hrr:rightP (.mk 2 n ks) 1048576 0=true:=by
    cases e:rightP (.mk 2 n ks) 1048576 0 with
    | false=>rw [e] at h;cases h
    | true=>rfl
   by_cases ha:(ks.length:Int)=arityP 2
   ·have e2:arityP 2=0:=by decide
    exact h2 ⟨rfl,List.eq_nil_of_length_eq_zero (show ks.length=0 by omega)⟩
   ·rw [right_bad ha] at hrr;cases hrr
 ·have h2:¬ ((Lv.mk k n ks).kind=2∧(Lv.mk k n ks).kids=[]):=fun e=>by have:k=2:=e.1;omega
  rw [mayF_rest h3 h2] at h
  have hrr:rightP (.mk k n ks) 1048576 0=true:=by
   cases e:rightP (.mk k n ks) 1048576 0 with
   | false=>rw [e] at h;cases h
   | true=>rfl
  by_cases ha:(ks.length:Int)=arityP k
  ·rcases hk with rfl | rfl
   ·rw [right_num ha] at hrr;have:=of_decide_eq_true hrr;omega
   ·rw [right_succ ha] at hrr;have:=of_decide_eq_true hrr;omega
  ·rw [right_bad ha] at hrr;cases hrr
mutual
theorem walk_may6 (v:Int):(l:Lv)→(d s:Int)→0≤s→(walkP (mayF v) l d s).1=0→VarL v l∧NumL l∧(walkP (mayF v) l d s).2=s+sz l∧s+sz l≤100
 | .mk k n ks,d,s,h0,h=>by
  by_cases h1:(mayF v (.mk k n ks) d s).1=0
  ·obtain ⟨a1,a2,a3,a4⟩:=mayF_node h0 h1
   rw [walkP_go h1,a3] at h ⊢
   have:=walks_may6 v ks (d+1) (s+1) (by omega) (by omega) h
   simp only [Lv.kids] at this ⊢
   rw [sz_mk]
   refine ⟨.mk a1 this.1,.mk a2 this.2.1,by rw [this.2.2.1];omega,by have:=this.2.2.2;omega⟩
  ·rw [walkP_stop h1] at h;exact absurd h h1
theorem walks_may6 (v:Int):(ks:List Lv)→(d s:Int)→0≤s→s≤100→(walkKs (mayF v) ks d s).1=0→(∀ x∈ks,VarL v x)∧(∀ x∈ks,NumL x)∧(walkKs (mayF v) ks d s).2=s+szs ks∧s+szs ks≤100
 | [],d,s,_,hs,_=>by
  rw [walkKs.eq_def,szs_nil]
  exact ⟨by simp,by simp,by simp,by omega⟩
 | y :: r,d,s,h0,_,h=>by
  by_cases h2:(walkP (mayF v) y d s).1=0
  ·rw [walkKs_go h2] at h ⊢
   obtain ⟨b1,b2,b3,b4⟩:=walk_may6 v y d s h0 h2
   rw [b3] at h ⊢
   obtain ⟨c1,c2,c3,c4⟩:=walks_may6 v r d (s+sz y) (by omega) b4 h
   rw [szs_cons]
   refine ⟨fun x hx=>?_,fun x hx=>?_,by rw [c3];omega,by omega⟩
   ·rcases List.mem_cons.1 hx with rfl | hx
    ·exact b1
    ·exact c1 x hx
   ·rcases List.mem_cons.1 hx with rfl | hx
    ·exact b2
    ·exact c2 x hx
  ·rw [walkKs_stop h2] at h;exact absurd h h2
end
structure May6 (l:Lv):Prop where
 sound:soundB l=true
 vars:VarL 6 l
 nums:NumL l
 small:sz l≤100
theorem may6 {l:Lv} (h:mayB 6 l=0):May6 l:=by
 have h1:=walk_may6 6 l 1 0 (by decide) h
 exact ⟨mayB_sound (by decide) h,h1.1,h1.2.1,by have:=h1.2.2.2;omega⟩
theorem val_most {at_:List Int} {B:Int} (hB:∀ i,vAt at_ i≤B) (h0:0≤B):∀ {l:Lv},Good l→NumL l→valR at_ l≤B+sz l * 1048576:=by
 intro l h
 induction h with
 | @mk k n ks h hk ih =>
  intro hn
  rw [sz_mk]
  rcases good_cases (.mk h hk) with ⟨rfl,rfl,h0,h1⟩ | ⟨rfl,rfl,h0,h1⟩ | ⟨rfl,x,rfl,h0,h1,hx⟩ | ⟨rfl,x,y,rfl,-,-⟩
  ·rw [valR_num,szs_nil];have:=hn.num (.inl rfl);omega
  ·rw [valR_var,szs_nil];have:=hB n.toNat;omega
  ·rw [valR_succ,szs_cons,szs_nil]
   have:=ih x (by simp) (hn.kid x (by simp))
   have:=hn.num (.inr rfl)
   omega
  ·rw [valR_max,szs_cons,szs_cons,szs_nil]
   have:=ih x (by simp) (hn.kid x (by simp))
   have:=ih y (by simp) (hn.kid y (by simp))
   omega
theorem val_congr {at_ bt:List Int} {m:Int} (hv:∀ i:Nat,(i:Int)<m→vAt at_ i=vAt bt i):∀ {l:Lv},Good l→VarL m l→valR at_ l=valR bt l:=by
 intro l h
 induction h with
 | @mk k n ks h hk ih =>
  intro hn
  rcases good_cases (.mk h hk) with ⟨rfl,rfl,h0,h1⟩ | ⟨rfl,rfl,h0,h1⟩ | ⟨rfl,x,rfl,h0,h1,hx⟩ | ⟨rfl,x,y,rfl,-,-⟩
  ·rw [valR_num,valR_num]
  ·rw [valR_var,valR_var];exact hv _ (by have:=hn.num rfl;omega)
  ·rw [valR_succ,valR_succ,ih x (by simp) (hn.kid x (by simp))]
  ·rw [valR_max,valR_max,ih x (by simp) (hn.kid x (by simp)),ih y (by simp) (hn.kid y (by simp))]
theorem vAt_nil (i:Nat):vAt [] i=0:=by unfold vAt;rw [if_neg (by simp)]
theorem sml_val {f:Nf} {X:Int} (h0:0≤X) (hX:X<1099511627776) (h:valN [] f≤X):Sml f X:=by
 obtain ⟨h1,h2⟩:=valN_le.1 h
 refine ⟨h1,fun j=>?_⟩
 by_cases hj:0≤atP f.2 j
 ·have:=h2 j hj
  rw [vAt_nil] at this
  omega
 ·omega
theorem leq_val {f g:Nf} (hf:NfOk f) (hg:NfOk g) (sf:Sml f 1048576000) (sg:Sml g 1048576000) (h:∀ at_,valN at_ f≤valN at_ g):leqR f g:=by
 by_cases hn:leqR f g
 ·exact hn
 exfalso
 obtain ⟨n,hnn⟩:∃ n,n=(shortN f).2.length:=⟨_,rfl⟩
 by_cases hj:∃ j:Nat,atP g.2 j<atP f.2 j
 ·obtain ⟨j,hj⟩:=hj
  have hb0:=atP_ge hg j
  have hlt:j<n:=by
   by_cases hlt:j<n
   ·exact hlt
   ·exfalso
    have e:=atP_short hf j
    rw [atP_beyond (by omega)] at e
    omega
  have h1:=(valN_le (vs:=greatL n j) (f:=f) (b:=valN (greatL n j) f)).1 (Int.le_refl _)
  have h2:=h1.2 j (by omega)
  rw [great_at,if_pos ⟨rfl,hlt⟩] at h2
  have h3:=sf.2 j
  have h4:valN (greatL n j) g≤34359738368+atP f.2 j - 1:=by
   refine valN_le.2 ⟨by have:=sg.1;omega,fun i hi=>?_⟩
   rw [great_at]
   by_cases e:(i:Int)=j∧i<n
   ·rw [if_pos e]
    obtain rfl:i=j:=by omega
    omega
   ·rw [if_neg e]
    have:=sg.2 i
    omega
  have:=h (greatL n j)
  omega
 ·have hc:leastN g<f.1:=by
   by_cases hc:leastN g<f.1
   ·exact hc
   ·exfalso
    apply hn
    refine ⟨fun j=>?_,by omega⟩
    by_cases h1:atP f.2 j≤atP g.2 j
    ·exact h1
    ·exact absurd ⟨j,by omega⟩ hj
  have h1:=(valN_le (vs:=greatL n (-1)) (f:=f) (b:=valN (greatL n (-1)) f)).1 (Int.le_refl _)
  have h0:=least_ge g
  have hb0:=hg.1
  have h2:valN (greatL n (-1)) g≤leastN g:=by
   refine valN_le.2 ⟨h0,fun i hi=>?_⟩
   rw [great_at,if_neg (by omega)]
   have:=least_at (f:=g) i (by omega)
   omega
  have:=h1.1
  have:=h (greatL n (-1))
  omega
theorem of_len {fs:List Nf} (hfs:∀ f∈fs,f.2.length≤6):∀ {l:Lv},Good l→VarL 6 l→(ofP fs l).2.length≤6:=by
 intro l h
 induction h with
 | @mk k n ks h hk ih =>
  intro hn
  rcases good_cases (.mk h hk) with ⟨rfl,rfl,h0,h1⟩ | ⟨rfl,rfl,h0,h1⟩ | ⟨rfl,x,rfl,h0,h1,hx⟩ | ⟨rfl,x,y,rfl,-,-⟩
  ·rw [ofP_num];simp
  ·rw [ofP_var]
   unfold varN
   split
   ·rw [List.getD_eq_getElem?_getD]
    cases e:fs[n.toNat]? with
    | none=>simp
    | some f=>exact hfs f (List.mem_of_getElem? e)
   ·have:=hn.num rfl
    simp;omega
  ·rw [ofP_succ]
   have:=ih x (by simp) (hn.kid x (by simp))
   simpa [plusN] using this
  ·rw [ofP_max,or_len]
   have:=ih x (by simp) (hn.kid x (by simp))
   have:=ih y (by simp) (hn.kid y (by simp))
   omega
theorem sum_len {l:Lv} (h:Good l) (hv:VarL 6 l):(sumP l).2.length≤6:=of_len (fs:=[]) (fun f hf=>by simp at hf) h hv
mutual
theorem inst_zero {vs:List Lv} (hs:∀ u∈vs,soundB u=true):(l:Lv)→Good l→(fs:List Nf)→(instP vs l fs).1=0
 | .mk k n ks,hg,fs=>by
  have h1:(insvF vs k n fs).1=0:=by
   unfold insvF
   split
   ·rename_i hh
    have hn:0≤n:=by
     rcases good_cases hg with ⟨e,-⟩ | ⟨-,-,h0,-⟩ | ⟨e,-⟩ | ⟨e,-⟩
     ·omega
     ·exact h0
     ·omega
     ·omega
    have hu:soundB (lvAt vs n)=true:=by
     unfold lvAt
     rw [List.getD_eq_getElem?_getD,List.getElem?_eq_getElem (show n.toNat<vs.length by omega)]
     exact hs _ (List.getElem_mem _)
    rw [if_pos hu]
   ·rfl
  rw [instP_go h1]
  cases hg with
  | mk _ hk=>exact insts_zero hs ks hk _
theorem insts_zero {vs:List Lv} (hs:∀ u∈vs,soundB u=true):(ks:List Lv)→(∀ x∈ks,Good x)→(fs:List Nf)→(instKs vs ks fs).1=0
 | [],_,fs=>by rw [instKs_nil]
 | x :: r,hk,fs=>by
  have h1:=inst_zero hs x (hk x (by simp)) fs
  rw [instKs_go h1]
  exact insts_zero hs r (fun y hy=>hk y (by simp [hy])) _
end
structure PartL (m:Int) (x:Lv):Prop where
 good:Good x
 sz:sz x≤2
 dp:dp x≤2
 vars:VarL m x
theorem good_varI {i:Nat} (hi:i≤1000):Good (.mk 2 i []):=.mk (by rw [right_var rfl];exact decide_eq_true (by omega)) (fun x h=>by simp at h)
theorem sz_varI (k n:Int):sz (.mk k n [])=1∧dp (.mk k n [])=1:=by rw [sz_mk,dp_mk,szs_nil,dps_nil];exact ⟨rfl,rfl⟩
theorem own_varI {i:Nat} (hi:i≤1000):owP (.mk 2 i [])=.mk 2 i []:=by
 have hs:soundB (.mk 2 (i:Int) [])=true:=(sound_iff _).2 ⟨good_varI hi,by rw [(sz_varI _ _).1];omega,by rw [(sz_varI _ _).2];omega⟩
 rw [owP_sound hs,cpP,cpKs,if_neg (by decide)]
theorem part_var {k:Int} {i:Nat} {m:Int} (h0:0≤k) (h1:k≤1099511627776) (hi:i≤1000) (hm:(i:Int)<m):PartL m (varL k i):=by
 have hv:VarL m (.mk 2 (i:Int) []):=.mk (fun _=>hm) (fun x h=>by simp at h)
 unfold varL
 by_cases hk:k<1
 ·rw [plP_own hk,own_varI hi]
  exact ⟨good_varI hi,by rw [(sz_varI _ _).1];omega,by rw [(sz_varI _ _).2];omega,hv⟩
 ·rw [plP_new hk (by show ¬ (2:Int)=3;decide),own_varI hi]
  refine ⟨.mk (by rw [right_succ rfl];exact decide_eq_true (by omega)) (fun x hx=>(List.mem_singleton.1 hx) ▸ good_varI hi),?_,?_,.mk (fun e=>absurd e (by decide)) (fun x hx=>(List.mem_singleton.1 hx) ▸ hv)⟩
  ·rw [sz_mk,szs_cons,szs_nil,(sz_varI _ _).1];omega
  ·rw [dp_mk,dps_cons,dps_nil,(sz_varI _ _).2];omega
theorem part_num {m n:Int} (h0:0≤n) (h1:n≤1099511627776):PartL m (.mk 1 n []):=
 ⟨.mk (by rw [right_num rfl];exact decide_eq_true (by omega)) (fun x h=>by simp at h),by rw [(sz_varI _ _).1];omega,by rw [(sz_varI _ _).2];omega,.mk (fun e=>absurd e (by decide)) (fun x h=>by simp at h)⟩
theorem parts_all {f:Nf} (hf:NfOk f) {m:Int} (hm:(f.2.length:Int)≤m) (hl:f.2.length≤6):∀ (j:Nat),j≤f.2.length→(partsK f j).length≤j+1∧∀ x∈partsK f j,PartL m x
 | 0,_=>by
  unfold partsK
  split
  ·exact ⟨by simp,fun x hx=>(List.mem_singleton.1 hx) ▸ part_num hf.1 hf.2.1⟩
  ·exact ⟨by simp,fun x hx=>by simp at hx⟩
 | j+1,hj=>by
  obtain ⟨h1,h2⟩:=parts_all hf hm hl j (by omega)
  unfold partsK
  split
  ·rename_i hr
   refine ⟨by simp;omega,fun x hx=>?_⟩
   rcases List.mem_append.1 hx with hx | hx
   ·exact h2 x hx
   ·rw [List.mem_singleton.1 hx]
    have hj':j<f.2.length:=by omega
    have hx2:=hf.2.2.1 _ (List.getElem_mem hj')
    have e:rd f.2 (j:Nat)=f.2[j]:=by rw [rd_nat',List.getD_eq_getElem?_getD,List.getElem?_eq_getElem hj'];rfl
    exact part_var hr (by rw [e];exact hx2.2) (by omega) (by omega)
  ·exact ⟨by simp;omega,fun x hx=>h2 x (by simpa using hx)⟩
theorem fold_all {m:Int}:∀ (r:List Lv) (o:Lv),Good o→VarL m o→(∀ x∈r,PartL m x)→Good (foldM o r)∧VarL m (foldM o r)∧sz (foldM o r)≤sz o+r.length * 3∧dp (foldM o r)≤max (dp o) 2+r.length
 | [],o,hg,hv,_=>⟨hg,hv,by show sz o≤_;omega,by show dp o≤_;omega⟩
 | p :: r,o,hg,hv,hr=>by
  have hp:=hr p (by simp)
  have two:∀ x∈[o,p],x=o∨x=p:=fun x hx=>by simpa using hx
  have hg2:Good (.mk 4 0 [o,p]):=.mk (right_else rfl (by decide) (by decide) (by decide)) fun x hx=>by rcases two x hx with rfl | rfl;exact hg;exact hp.good
  have hv2:VarL m (.mk 4 0 [o,p]):=.mk (fun e=>absurd e (by decide)) fun x hx=>by rcases two x hx with rfl | rfl;exact hv;exact hp.vars
  obtain ⟨a1,a2,a3,a4⟩:=fold_all r (.mk 4 0 [o,p]) hg2 hv2 fun x hx=>hr x (by simp [hx])
  have e1:sz (.mk 4 0 [o,p])=sz o+sz p+1:=by rw [sz_mk,szs_cons,szs_cons,szs_nil];omega
  have e2:dp (.mk 4 0 [o,p])=max (dp o) (dp p)+1:=by rw [dp_mk,dps_cons,dps_cons,dps_nil];omega
  have:=hp.sz
  have:=hp.dp
  refine ⟨a1,a2,?_,?_⟩
  ·show sz (foldM (.mk 4 0 [o,p]) r)≤_
   rw [e1] at a3
   simp only [List.length_cons]
   omega
  ·show dp (foldM (.mk 4 0 [o,p]) r)≤_
   rw [e2] at a4
   simp only [List.length_cons]
   omega
theorem lvl_sound {f:Nf} (hf:NfOk f) (hl:f.2.length≤6) (hne:partsN f≠[]):soundB (lvlN f)=true∧VarL 6 (lvlN f):=by
 obtain ⟨h1,h2⟩:=parts_all hf (m:=6) (by omega) hl f.2.length (Nat.le_refl _)
 unfold lvlN
 cases hp:partsN f with
 | nil=>exact absurd hp hne
 | cons x r =>
  show soundB (foldM x r)=true∧VarL 6 (foldM x r)
  have hp':partsK f f.2.length=x :: r:=hp
  rw [hp'] at h1 h2
  have hx:=h2 x (by simp)
  obtain ⟨a1,a2,a3,a4⟩:=fold_all r x hx.good hx.vars fun y hy=>h2 y (by simp [hy])
  simp only [List.length_cons] at h1
  have:=hx.sz
  have:=hx.dp
  exact ⟨(sound_iff _).2 ⟨a1,by omega,by omega⟩,a2⟩
structure InL (vs:List Lv) (l:Lv):Prop where
 sound:soundB (instL vs l)=true
 vars:VarL 6 (instL vs l)
theorem inst_in {vs:List Lv} {l:Lv} (hs:∀ u∈vs,soundB u=true) (hv:∀ u∈vs,VarL 6 u) (hl:soundB l=true) (hlv:VarL 6 l):InL vs l:=by
 have hg:=good_of_sound hl
 have hn:NfL (ofP (vs.map sumP) l):=ofP_nfl (fun f hf=>by obtain ⟨u,hu',rfl⟩:=List.mem_map.1 hf;exact sum_nfl (hs u hu')) hg
 have h6:(ofP (vs.map sumP) l).2.length≤6:=of_len (fun f hf=>by obtain ⟨u,hu,rfl⟩:=List.mem_map.1 hf;exact sum_len (good_of_sound (hs u hu)) (hv u hu)) hg hlv
 have h:=lvl_sound (short_ok hn.1) (Nat.le_trans (short_len_le _) h6) (parts_ne hn.1)
 have e:instL vs l=lvlN (shortN (ofP (vs.map sumP) l)):=if_pos ⟨hl,inst_zero hs l hg _⟩
 exact ⟨by rw [e];exact h.1,by rw [e];exact h.2⟩
end Go.Proofs.Ytdboloabpjmgaaa

namespace Go.Proofs.Ytdboloabpjmgaaa
open Go.RowKit Go.Proofs.YtdboloabpjmgaaaW.PrintWords Go.RegionInvYtdboloabpjmgaaa Go.RegionEYtdboloabpjmgaaa

def forL (us:List Lv) (i:Nat):Lv:=if i<us.length then lvAt us i else .mk 2 i []
def bothL (us vs:List Lv):List Lv:=(List.range 6).map fun i=>instL vs (forL us i)
theorem both_at {us vs:List Lv} {i:Nat} (hi:i<6):lvAt (bothL us vs) i=instL vs (forL us i):=by
 unfold lvAt bothL
 rw [Int.toNat_natCast,List.getD_eq_getElem?_getD,List.getElem?_map,List.getElem?_range hi];rfl
theorem both_len (us vs:List Lv):(bothL us vs).length=6:=by simp [bothL]
theorem lvAt_mem {us:List Lv} {i:Nat} (hi:i<us.length):lvAt us i∈us:=by
 unfold lvAt
 rw [Int.toNat_natCast,List.getD_eq_getElem?_getD,List.getElem?_eq_getElem hi]
 exact List.getElem_mem _
theorem sound_varI {i:Nat} (hi:i<6):soundB (.mk 2 (i:Int) [])=true∧VarL 6 (.mk 2 (i:Int) []):=
 ⟨(sound_iff _).2 ⟨good_varI (by omega),by rw [(sz_varI _ _).1];omega,by rw [(sz_varI _ _).2];omega⟩,.mk (fun _=>by omega) (fun x h=>by simp at h)⟩
theorem for_ok {us:List Lv} (hu:∀ u∈us,May6 u) {i:Nat} (hi:i<6):soundB (forL us i)=true∧VarL 6 (forL us i):=by
 unfold forL
 split
 ·rename_i h;exact ⟨(hu _ (lvAt_mem h)).sound,(hu _ (lvAt_mem h)).vars⟩
 ·exact sound_varI hi
theorem both_mem {us vs:List Lv} (hu:∀ u∈us,May6 u) (hv:∀ v∈vs,May6 v):∀ x∈bothL us vs,soundB x=true∧VarL 6 x:=by
 intro x hx
 obtain ⟨i,hi,rfl⟩:=List.mem_map.1 hx
 have hi:=List.mem_range.1 hi
 have h:=for_ok hu hi
 have:=inst_in (fun v h=>(hv v h).sound) (fun v h=>(hv v h).vars) h.1 h.2
 exact ⟨this.sound,this.vars⟩
theorem vb_r {at_:List Int} {l:Lv} (h:soundB l=true):valB at_ l=valR at_ l:=by rw [valB_yes h,valN_sum _ (good_of_sound h)]
theorem subs_val {us vs:List Lv} {l:Lv} (hu:∀ u∈us,May6 u) (hv:∀ v∈vs,May6 v) (hul:us.length≤6) (hl:May6 l) (at_:List Int) :
  valB at_ (instL vs (instL us l))=valR (innerL us (innerL vs at_)) l∧valB at_ (instL (bothL us vs) l)=valR (innerL us (innerL vs at_)) l:=by
 have hus:=fun u h=>(hu u h).sound
 have hvs:=fun v h=>(hv v h).sound
 have hbs:=fun x h=>(both_mem hu hv x h).1
 have hA1:=inst_in hus (fun u h=>(hu u h).vars) hl.sound hl.vars
 have hA2:=inst_in hvs (fun v h=>(hv v h).vars) hA1.sound hA1.vars
 have hB:=inst_in hbs (fun x h=>(both_mem hu hv x h).2) hl.sound hl.vars
 refine ⟨by rw [puts_val hvs hA1.sound hA2.sound,puts_val hus hl.sound hA1.sound,vb_r hl.sound],?_⟩
 rw [puts_val hbs hl.sound hB.sound,vb_r hl.sound]
 refine val_congr (m:=6) (fun i hi=>?_) (good_of_sound hl.sound) hl.vars
 have hi6:i<6:=by omega
 have hf:=for_ok hu hi6
 have hin:=inst_in hvs (fun v h=>(hv v h).vars) hf.1 hf.2
 rw [inner_at hbs,if_pos (by rw [both_len];exact hi6),both_at hi6,puts_val hvs hf.1 hin.sound,inner_at hus]
 unfold forL
 split
 ·rfl
 ·rw [vb_r (sound_varI hi6).1,valR_var,Int.toNat_natCast]
theorem inner_most {us:List Lv} {at_:List Int} {B:Int} (hu:∀ u∈us,May6 u) (h0:0≤B) (hB:∀ i,vAt at_ i≤B) (i:Nat):vAt (innerL us at_) i≤B+104857600:=by
 rw [inner_at fun u h=>(hu u h).sound]
 split
 ·rename_i h
  have hm:=hu _ (lvAt_mem h)
  rw [vb_r hm.sound]
  have:=val_most hB h0 (good_of_sound hm.sound) hm.nums
  have:=hm.small
  omega
 ·have:=hB i;omega
theorem subs_eq {us vs:List Lv} {l:Lv} (hu:∀ u∈us,May6 u) (hv:∀ v∈vs,May6 v) (hul:us.length≤6) (hl:May6 l):eqP (instL vs (instL us l)) (instL (bothL us vs) l)=true:=by
 have hA1:=inst_in (fun u h=>(hu u h).sound) (fun u h=>(hu u h).vars) hl.sound hl.vars
 have hA2:=inst_in (fun v h=>(hv v h).sound) (fun v h=>(hv v h).vars) hA1.sound hA1.vars
 have hB:=inst_in (fun x h=>(both_mem hu hv x h).1) (fun x h=>(both_mem hu hv x h).2) hl.sound hl.vars
 have hv0:=fun at_=>subs_val hu hv hul hl at_
 have hmost:valR (innerL us (innerL vs [])) l≤314572800:=by
  have h1:=val_most (l:=l) (inner_most (at_:=innerL vs []) (B:=104857600) hu (by decide) (fun i=>by have:=inner_most (at_:=[]) (B:=0) hv (by decide) (fun i=>by rw [vAt_nil];omega) i;omega)) (by decide) (good_of_sound hl.sound) hl.nums
  have:=hl.small
  omega
 have hfA:=sumP_ok hA2.sound
 have hfB:=sumP_ok hB.sound
 have eA:∀ at_,valN at_ (sumP (instL vs (instL us l)))=valR (innerL us (innerL vs at_)) l:=fun at_=>by rw [← valB_yes hA2.sound];exact (hv0 at_).1
 have eB:∀ at_,valN at_ (sumP (instL (bothL us vs) l))=valR (innerL us (innerL vs at_)) l:=fun at_=>by rw [← valB_yes hB.sound];exact (hv0 at_).2
 have sA:=sml_val (X:=1048576000) (by decide) (by decide) (by rw [eA];omega:valN [] (sumP (instL vs (instL us l)))≤1048576000)
 have sB:=sml_val (X:=1048576000) (by decide) (by decide) (by rw [eB];omega:valN [] (sumP (instL (bothL us vs) l))≤1048576000)
 exact (eqP_iff hA2.sound hB.sound).2 ((eqR_leqR hfA hfB).2 ⟨leq_val hfA hfB sA sB fun at_=>by rw [eA,eB];exact Int.le_refl _,leq_val hfB hfA sB sA fun at_=>by rw [eA,eB];exact Int.le_refl _⟩)
end Go.Proofs.Ytdboloabpjmgaaa

namespace Go.Proofs.Ytdboloabpjmgaaa
open Go.RowKit Go.Proofs.YtdboloabpjmgaaaW.PrintWords Go.RegionInvYtdboloabpjmgaaa

theorem leafT_var (n:Int):leafT (varT n)=true:=leafT_of (nK_var n)
theorem ok_like {F:Tm→Int→Tm} {t:Tm} {b:Int} (hF:∀ x e,leafT x=true→nK (F x e)=0) (h:okT t):okT (rebP F t b):=by
 have h1:=reb_size (F:=F) (k:=0) (t:=t) (b:=b) (all_of _ _ (fun x e hl=>by rw [size_leaf (hF x e hl)];omega) t (Nat.lt_succ_self _) b)
 have h2:=reb_depth (F:=F) (k:=0) (t:=t) (b:=b) (all_of _ _ (fun x e hl=>by rw [depth_leaf (hF x e hl)];omega) t (Nat.lt_succ_self _) b)
 exact ⟨by have:=h.1;omega,by have:=h.2;omega⟩
theorem ok_can {t:Tm} {b:Int} (h:okT t):okT (canT t b):=ok_like (fun x _ _=>nK_nodeP x) h
theorem sameT_can {t:Tm} (h:Whole t) {u:Tm} (hu:u=canT t 0):SameT u t=true:=by
 unfold SameT
 rw [hu,decide_eq_true (ok_can h.ok),decide_eq_true h.ok,same_can (h.lf 0)]
 rfl
theorem sameT_eq {t u:Tm} (ho:okT t) (h:AllL (fun x _=>LfOk x) t 0) (hu:u=t):SameT t u=true:=by
 unfold SameT
 rw [hu,decide_eq_true ho,same_self h]
 rfl
end Go.Proofs.Ytdboloabpjmgaaa

namespace Go.Proofs.Ytdboloabpjmgaaa
open Go.RowKit Go.Proofs.YtdboloabpjmgaaaW.PrintWords Go.RegionInvYtdboloabpjmgaaa Go.RegionEYtdboloabpjmgaaa

inductive Bt:Tm→Prop
 | var:Bt (varT 0)
 | zero:Bt zeroT
 | app {x y:Tm} (hx:Bt x) (hy:Bt y):Bt (appT x y)
theorem reb_appT (RF:Tm→Int→Tm) (x y:Tm):rebP RF (appT x y) 0=appT (rebP RF x 0) (rebP RF y 0):=by
 unfold appT
 rw [reb_app]
 rfl
theorem Bt.same {F G:Tm→Int→Tm} (h0:F (varT 0) 0=G (varT 0) 0) (h1:F zeroT 0=G zeroT 0) {t:Tm} (h:Bt t):rebP F t 0=rebP G t 0:=by
 induction h with
 | var=>rw [reb_leaf (leafT_var 0),reb_leaf (leafT_var 0)];exact h0
 | zero=>rw [reb_leaf rfl,reb_leaf rfl];exact h1
 | app _ _ i j=>rw [reb_appT,reb_appT,i,j]
theorem Bt.id {F:Tm→Int→Tm} (h0:F (varT 0) 0=varT 0) (h1:F zeroT 0=zeroT) {t:Tm} (h:Bt t):rebP F t 0=t:=by
 induction h with
 | var=>rw [reb_leaf (leafT_var 0)];exact h0
 | zero=>rw [reb_leaf rfl];exact h1
 | app _ _ i j=>rw [reb_appT,i,j]
end Go.Proofs.Ytdboloabpjmgaaa

namespace Go.Proofs.Ytdboloabpjmgaaa
open Go.RowKit Go.Proofs.YtdboloabpjmgaaaW.PrintWords Go.RegionInvYtdboloabpjmgaaa Go.RegionEYtdboloabpjmgaaa

def lvRow (fA:Nat→Option Addr) (fc:Nat→Nat):List Lv→Nat→List Value
 | [],_=>[]
 | x :: r,i=>.int .i64 x.kind :: .int .i64 x.num :: .slice (fA i) x.kids.length (fc i) :: lvRow fA fc r (i+1)
theorem lvRow_len (fA:Nat→Option Addr) (fc:Nat→Nat):∀ (xs:List Lv) (i:Nat),(lvRow fA fc xs i).length=xs.length * 3
 | [],_=>rfl
 | x :: r,i=>by unfold lvRow;simp only [List.length_cons,lvRow_len fA fc r (i+1)];omega
theorem lvRow_one (fA:Nat→Option Addr) (fc:Nat→Nat):∀ (xs:List Lv) (i:Nat),∀ u∈lvRow fA fc xs i,u.oneCell'=true
 | [],_,u,h=>by simp [lvRow] at h
 | x :: r,i,u,h=>by
  unfold lvRow at h
  simp only [List.mem_cons] at h
  rcases h with rfl | rfl | rfl | h
  ·rfl
  ·rfl
  ·rfl
  ·exact lvRow_one fA fc r (i+1) u h
theorem lvRow_get (fA:Nat→Option Addr) (fc:Nat→Nat):∀ (xs:List Lv) (i j:Nat) (x:Lv),xs[j]?=some x →
  (lvRow fA fc xs i)[j * 3]?=some (.int .i64 x.kind)∧(lvRow fA fc xs i)[j * 3+1]?=some (.int .i64 x.num)∧(lvRow fA fc xs i)[j * 3+2]?=some (.slice (fA (i+j)) x.kids.length (fc (i+j)))
 | [],_,j,x,h=>by simp at h
 | y :: r,i,0,x,h=>by
  obtain rfl:y=x:=by simpa using h
  exact ⟨rfl,rfl,rfl⟩
 | y :: r,i,j+1,x,h=>by
  have:=lvRow_get fA fc r (i+1) j x (by simpa using h)
  rw [show i+1+j=i+(j+1) by omega] at this
  rw [show (j+1) * 3=j * 3+3 by omega]
  exact this
theorem mod3 {xs:List Lv} {j:Nat} (h:j<xs.length * 3):∃ i m,j=i * 3+m∧m<3∧i<xs.length:=⟨j / 3,j % 3,by omega,by omega,by omega⟩
end Go.Proofs.Ytdboloabpjmgaaa

namespace Go.Proofs.Ytdboloabpjmgaaa
open Go.RowKit Go.Proofs.YtdboloabpjmgaaaW.PrintWords Go.RegionInvYtdboloabpjmgaaa Go.RegionEYtdboloabpjmgaaa

structure InsBS (w W:World) (S:Nat→Prop) (p pv:Pl) (t v:Tm):Prop where
 bt:W.heap[w.heap.size]?=some (tmO p t)
 bv:W.heap[w.heap.size+1]?=some (tmO pv v)
 br:W.heap[w.heap.size+1+1]?=some (outK 0 (.slice none 0 0))
 bel:Below w.heap.size w W
 it:TmS W S p t
 iv:TmS W S pv v
theorem InsBS.far {w W W':World} {S:Nat→Prop} {g0:Nat} {p pv:Pl} {t v:Tm} (h:InsBS w W S p pv t v) (hS:∀ k,S k→k<g0) (hg0:g0≤w.heap.size) (hb:Below (w.heap.size+3) W W'):InsBS w W' S p pv t v:=
 ⟨(hb.block _ (by omega)).trans h.bt,(hb.block _ (by omega)).trans h.bv,(hb.block _ (by omega)).trans h.br,Below.trans h.bel (hb.mono (by omega)),h.it.stay hS (hb.mono (by omega)),h.iv.stay hS (hb.mono (by omega))⟩
end Go.Proofs.Ytdboloabpjmgaaa

namespace Go.Proofs.Ytdboloabpjmgaaa
open Go.RowKit Go.Proofs.YtdboloabpjmgaaaW.PrintWords Go.RegionInvYtdboloabpjmgaaa

set_option maxHeartbeats 4000000 in
theorem refmayt_calls (t:Tm) (p:Pl) (v:Int) (w:World) (hin:TmIn w w.heap.size p t) :
  Calls Try.prog 45 #[tmV p t,.int .i64 v] w fun e w'=>e=.returned (.int .i64 (mayT v t))∧Below w.heap.size w w':=by
 have HIN:=Ak hin
 obtain ⟨W,hW⟩:∃ W,W=(w.alloc (tmO p t)).alloc (.cells #[.int .i64 0] 3 (0,0)):=⟨_,rfl⟩
 have hb:Below w.heap.size w W:=by rw [hW];exact below_alloc (below_alloc (Below.refl _ _) _) _
 have HX:=Ak (show W.heap[w.heap.size]?=some (tmO p t) by rw [hW];exact blk_alloc (blk_new _ _) _)
 have HN1:=Ak (show NumAt W (w.heap.size+1) 0 by rw [hW];have:=blk_new (w.alloc (tmO p t)) (.cells #[.int .i64 0] 3 (0,0));simp only [World.size_alloc] at this;exact this)
 have HB:=Ak hb
 clear hin hb
 unfold tmV
 unfold tmO at hW
 go_enter Try.func45,Try.ntmps45
 go_upto_region 2 with (fail)
 rw [← hW]
 clear hW
 obtain ⟨c0,c1,c2,c3,c4,c5,c6,c7⟩:=row8 HX.out
 go_wp2_with (go_at_call 84;go_must (refine (ref_mayt v _ t (Nat.lt_succ_self _) p 1 0 0 (w.heap.size+1) w.heap.size W (HIN.out.stay HB.out) HN1.out (by omega) (by decide) (by decide) (by decide) (by decide)).mono ?_;rintro e w2 ⟨rfl,-,hC⟩;have HB2:=Ak (Chg.trans_below HB.out hC (fun k h=>by omega) HB.out.size);clear hC))
 go_ret
 exact ⟨rfl,HB2.out⟩
end Go.Proofs.Ytdboloabpjmgaaa
