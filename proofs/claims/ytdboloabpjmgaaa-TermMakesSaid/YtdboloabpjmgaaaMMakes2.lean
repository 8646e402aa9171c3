/-
  Merged: ReIs, FoPl, ReLi, ReOw, MeP, Own, Lift, InP, Ins, MadeO, MadeR, Made, Apps, TAwk, May, Nf, LvR, LvRS, MayR, TName, TMay, TMayC, TMayR, Fine, Can, CntW, NfO, NfF, NfG, NfS, NfN, Sz, Eq, SamP, LiP, Bar, InsS, TwoB, TmX, EnK, RSz, EndR, Db, NeqB, SeR.
-/
import Derived.Test.YtdboloabpjmgaaaMMakes1
namespace Go.Proofs.Ytdboloabpjmgaaa
open Go.RowKit Go.Shelf Go.Proofs.YtdboloabpjmgaaaW.PrintWords Go.RegionInvYtdboloabpjmgaaa Go.RegionEYtdboloabpjmgaaa
attribute [local go_sem] Oper.semAt_some

abbrev vrIs (gv:Nat):Value:=.func (.func 61) #[] #[.pointer (some ⟨gv,0,none⟩)]
abbrev rbWIs (w:World) (p:Pl) (t:Tm) (b:Int) (gv:Nat):World:=
 (((w.alloc (tmO p t)).alloc (.cells #[.int .i64 b] 3 (0,0))).alloc (.cells #[vrIs gv] 68 (0,0))).alloc (.cells #[.int .i64 0,.int .i64 0,.string ⟨#[]⟩,.int .i64 0,.int .i64 0,.slice none 0 0,.slice none 0 0,.slice none 0 0] 28 (0,0))
set_option maxRecDepth 100000 in
set_option maxHeartbeats 16000000 in
theorem reb_Is (RF:Tm→Int→Tm) (Rep:World→Prop) (S:Nat→Prop) (g0 g1:Nat) (h01:g0≤g1) (hS:∀ k,S k→k<g0) (gv:Nat)
  (hRep:∀ (W W':World),Rep W→(∀ k,k<g1→W'.heap[k]?=W.heap[k]?)→Rep W')
  (hvis:∀ (t:Tm) (p:Pl) (b:Int) (w:World),leafT t=true→0≤b→b≤1000000→g1≤w.heap.size→TmS w S p t→Rep w→Calls Try.prog 61 #[tmV p t,.int .i64 b,.pointer (some ⟨gv,0,none⟩)] w (TmGot w S (RF t b)))
  (N:Nat):∀ (t:Tm),SizeOf.sizeOf t<N→∀ (p:Pl) (b:Int) (w:World),0≤b→b+depthT t≤1000000→g1≤w.heap.size→TmS w S p t→Rep w →
  Calls Try.prog 60 #[tmV p t,.int .i64 b,vrIs gv] w (TmGot w S (rebP RF t b)):=by
 induction N with
 | zero=>intro t h;omega
 | succ N ih =>
  intro t hN p b w hb0 hb1 hg1 hin hR
  have hg:g0≤w.heap.size:=Nat.le_trans h01 hg1
  have IH:=Ak ih
  have HSS:=Ak hS
  have HRP:=Ak hRep
  have HVS:=Ak hvis
  have HIN:=Ak hin
  have HR:=Ak hR
  have HNN:=Ak hN
  have HBD:=Ak hb1
  have hdp:1≤depthT t:=by rw [depthT];omega
  have hb2:b≤1000000:=by omega
  have hz0:(rbWIs w p t b gv).heap.size=w.heap.size+4:=by simp
  have hb0w:Below w.heap.size w (rbWIs w p t b gv):=below_alloc (below_alloc (below_alloc (below_alloc (Below.refl _ _) _) _) _) _
  have HX0:=Ak (show (rbWIs w p t b gv).heap[w.heap.size]?=some (tmO p t) from blk_alloc (blk_alloc (blk_alloc (blk_new _ _) _) _) _)
  have HX1:=Ak (show (rbWIs w p t b gv).heap[w.heap.size+1]?=some (.cells #[.int .i64 b] 3 (0,0)) by have:=blk_new (w.alloc (tmO p t)) (.cells #[.int .i64 b] 3 (0,0));simp only [World.size_alloc] at this;exact blk_alloc (blk_alloc this _) _)
  have HX2:=Ak (show (rbWIs w p t b gv).heap[w.heap.size+1+1]?=some (.cells #[vrIs gv] 68 (0,0)) by have:=blk_new ((w.alloc (tmO p t)).alloc (.cells #[.int .i64 b] 3 (0,0))) (.cells #[vrIs gv] 68 (0,0));simp only [World.size_alloc] at this;exact blk_alloc this _)
  have HX3:=Ak (show (rbWIs w p t b gv).heap[w.heap.size+1+1+1]?=some (outK 0 (.slice none 0 0)) by have:=blk_new (((w.alloc (tmO p t)).alloc (.cells #[.int .i64 b] 3 (0,0))).alloc (.cells #[vrIs gv] 68 (0,0))) (outK 0 (.slice none 0 0));simp only [World.size_alloc] at this;exact this)
  have HZ0:=Ak hz0
  have HB0:=Ak hb0w
  clear ih hRep hvis hin hR hN hz0 hb0w hb1
  unfold tmV vrIs
  refine (callsIn_wide (n:=5)).1 ?_
  refine callsIn_of_wp_marks Try.func60 rfl trivial ?_ rfl
  simp only [Try.ntmps60,List.size_toArray,List.length_cons,List.length_nil,Nat.reduceAdd,Nat.reduceSub,Array.replicate_succ,Array.replicate_zero,List.push_toArray,List.append_toArray,List.nil_append,List.cons_append]
  cases hlf:leafT t with
  | true =>
   have HLF:=Ak hlf
   have HE:=Ak (reb_leaf (RF:=RF) (b:=b) hlf)
   clear hlf
   gi_wp2
   refine ⟨trivial,?_⟩
   gi_at_call 75
   refine (callsIn_wide.2 (leaf_calls t p _)).mono ?_
   rintro e w1 ⟨rfl,hb1⟩
   rw [HLF.out]
   have hX0:=(hb1.block w.heap.size (by rw [HZ0.out];omega)).trans HX0.out
   have hX1:=(hb1.block _ (by rw [HZ0.out];omega)).trans HX1.out
   have hX2:=(hb1.block _ (by rw [HZ0.out];omega)).trans HX2.out
   have hX3:=(hb1.block _ (by rw [HZ0.out];omega)).trans HX3.out
   have HX31:=Ak hX3
   have HB1:=Ak (show Below w.heap.size w w1 from Below.trans HB0.out (hb1.mono HB0.out.size))
   obtain ⟨c0,c1,c2,c3,c4,c5,c6,c7⟩:=row8 hX0
   have d1:w1.cell? ⟨w.heap.size+1,0,none⟩=some (.int .i64 b):=by (rw [cell_of_row _ _ _ _ _ _ hX1];rfl)
   have d2:w1.cell? ⟨w.heap.size+1+1,0,none⟩=some (vrIs gv):=by (rw [cell_of_row _ _ _ _ _ _ hX2];rfl)
   clear hb1 hX0 hX1 hX2 hX3
   gi_wp2
   refine ⟨trivial,?_⟩
   gi_at_call 61
   refine (callsIn_wide.2 (HVS.out t p b w1 HLF.out hb0 hb2 (Nat.le_trans hg1 HB1.out.size) (TmS.stay HIN.out HSS.out (HB1.out.mono hg)) (HRP.out _ _ HR.out (fun k hk=>HB1.out.block k (by omega))))).mono ?_
   rintro e w3 ⟨q9,rfl,ht9,hb3⟩
   have hX3:=(hb3.block _ (blk_lt HX31.out)).trans HX31.out
   have HX33:=Ak hX3
   have HT9:=Ak ht9
   have HB3:=Ak hb3
   obtain ⟨r0,r1,r2,r3,r4,r5,r6,r7,f0,f1,f2,f3,f4,f5,f6,f7⟩:=row8c hX3
   obtain ⟨y,hy⟩:∃ y,y=RF t b:=⟨_,rfl⟩
   rw [← hy] at HT9 HE ⊢
   clear hX3 ht9 hb3 hy c0 c1 c2 c3 c4 c5 c6 c7
   unfold tmV
   gi_wp2
   refine ⟨_,results_c rfl _ _ (w.heap.size+1+1+1) 28 #[.int .i64 y.kind,.int .i64 y.num,.string y.name,.int .i64 y.lv.kind,.int .i64 y.lv.num,.slice q9.A y.lv.kids.length q9.c,.slice q9.B y.ls.length q9.d,.slice q9.K y.kids.length q9.e] (0,0) _ rfl (set8 HX33.out) Try.underlying28 rfl (by kernel_rfl),?_⟩
   have hch:=chg_set8 w3 (w.heap.size+1+1+1) (.int .i64 y.kind) (.int .i64 y.num) (.string y.name) (.int .i64 y.lv.kind) (.int .i64 y.lv.num) (.slice q9.A y.lv.kids.length q9.c) (.slice q9.B y.ls.length q9.d) (.slice q9.K y.kids.length q9.e)
   rw [HE.out]
   have hz1:=blk_lt HX31.out
   exact ⟨q9,rfl,(HT9.out.same fun k hk hz=>hch.block k hz (by rcases hk with hk | hk;have:=HSS.out _ hk;omega;omega)).mono fun k hk _=>hk.imp id fun h=>by omega,Chg.trans_below (below_then HB1.out HB1.out.size HB3.out) hch (fun _ e=>by omega) (Nat.le_trans HB1.out.size HB3.out.size)⟩
  | false =>
   have HLF:=Ak hlf
   have HE:=Ak (reb_node (RF:=RF) (b:=b) hlf)
   clear hlf
   gi_wp2
   refine ⟨trivial,?_⟩
   gi_at_call 75
   refine (callsIn_wide.2 (leaf_calls t p _)).mono ?_
   rintro e w1 ⟨rfl,hb1⟩
   rw [HLF.out]
   have hX0:=(hb1.block w.heap.size (by rw [HZ0.out];omega)).trans HX0.out
   have hX1:=(hb1.block _ (by rw [HZ0.out];omega)).trans HX1.out
   have hX2:=(hb1.block _ (by rw [HZ0.out];omega)).trans HX2.out
   have hX3:=(hb1.block _ (by rw [HZ0.out];omega)).trans HX3.out
   have hz1:w.heap.size+4≤w1.heap.size:=by have:=hb1.size;rw [HZ0.out] at this;exact this
   have HX01:=Ak hX0
   have HX11:=Ak hX1
   have HX21:=Ak hX2
   have HX31:=Ak hX3
   have HB1:=Ak (show Below w.heap.size w w1 from Below.trans HB0.out (hb1.mono HB0.out.size))
   obtain ⟨c0,c1,c2,c3,c4,c5,c6,c7⟩:=row8 hX0
   have hlt0:w.heap.size<w1.heap.size:=by omega
   clear hb1 hX0 hX1 hX2 hX3
   gi_wp2
   refine ⟨trivial,?_⟩
   gi_at_call 96
   obtain ⟨W1,hW1⟩:∃ W1,W1=w1.alloc (outK t.kind (.slice none 0 0)):=⟨_,rfl⟩
   rw [← hW1]
   have HO1:=Ak (show W1.heap[w1.heap.size]?=some (outK t.kind (.slice none 0 0)) by rw [hW1];exact blk_new _ _)
   have HBW1:=Ak (show Below w1.heap.size w1 W1 by rw [hW1];exact below_alloc (Below.refl _ _) _)
   have HZW1:=Ak (show W1.heap.size=w1.heap.size+1 by rw [hW1];simp)
   refine (callsIn_wide.2 (tkids_calls p t W1)).mono ?_
   rintro e w2 ⟨rfl,hw2⟩
   have HZX2:=Ak (show w2.heap[W1.heap.size]?=some (tmO p t) by rw [hw2];exact blk_new _ _)
   have HB2:=Ak (show Below W1.heap.size W1 w2 by rw [hw2];exact below_alloc (Below.refl _ _) _)
   have HZW2:=Ak (show w2.heap.size=W1.heap.size+1 by rw [hw2];simp)
   clear hw2 hW1 c0 c1 c2 c3 c4 c5 c6 c7
   have HBB:=Ak (show Below w1.heap.size w1 w2 from Below.trans HBW1.out (HB2.out.mono (by have:=HZW1.out;omega)))
   have HO2:=Ak (show w2.heap[w1.heap.size]?=some (outK t.kind (.slice none 0 0)) from (HB2.out.block _ (by have:=HZW1.out;omega)).trans HO1.out)
   gi_wp2
   obtain ⟨q,hq⟩:=(TmS.stay HIN.out HSS.out (Below.trans (HB1.out.mono hg) (HBB.out.mono (by omega)))).kid
   have HQ:=Ak hq
   have hlen:=HIN.out.len
   have hzz:=blk_lt HZX2.out
   have hzs:w1.heap.size<W1.heap.size:=by have:=HZW1.out;omega
   have hzs2:W1.heap.size<w2.heap.size:=hzz
   clear hq
   refine wpIn_rangeFunc_ownH (F:=Fence.wide) rfl (by decide) (gf:=117) (lb:=#[.pointer (some ⟨W1.heap.size,0,none⟩)]) rfl trivial (enters_of Try.func117 (by kernel_rfl) rfl)
    (kids_stops (5 - 1) (by decide) p t q W1.heap.size w2.heap.size (fun k=>k=w1.heap.size) S w2 HZX2.out hzz (Nat.le_refl _) (fun e=>by omega) (fun k hk=>by have hk:=HSS.out _ hk;exact ⟨by omega,fun h=>by omega⟩) (by omega) (fun i x hx=>(HQ.out i x hx).1))
    kpG_trans (kpG_put (Nat.le_refl _)) (Below.refl _ _) (fun _=>rfl)
    (fun pre W=>∃ V,W.heap[w1.heap.size]?=some (outK t.kind V)∧KidsT W S w2.heap.size V (rebKids RF t b pre)∧Chg (fun k=>k=w1.heap.size) w2 W)
    (fun _ _ _=>False)
    (fun pre X Y row hs hg hr=>by obtain ⟨V,h1,h2,h3⟩:=hs;exact ⟨V,(hg.block _ (blk_lt h1) (fun e=>by have:=(hr _ e.symm).1;omega)).trans h1,h2.grown hg (fun r e=>row_no (hr r e).2),chg_grown h3 hg (fun r e=>(hr r e).1)⟩)
    (fun c pre X Y row hs hg hr=>hs)
    ⟨.slice none 0 0,HO2.out,KidsT.nil _ _ _,Chg.refl _ _⟩
    (fun x a' W=>∃ Bx,w2.heap.size≤Bx∧W.heap[Bx]?=some (tmO (q x) (kidF t x))∧(∀ V,W.heap[w1.heap.size]?=some (outK t.kind V)→V.ownBlock≠some Bx)∧a' = { tmps:=#[tmV p t,.int .i64 b,vrIs gv,.pointer (some ⟨w.heap.size,0,none⟩),.pointer (some ⟨w.heap.size+1,0,none⟩),.pointer (some ⟨w.heap.size+1+1,0,none⟩),.pointer (some ⟨w.heap.size+1+1+1,0,none⟩),.pointer (some ⟨w1.heap.size,0,none⟩),.int .i64 (moreZ t x),.pointer (some ⟨Bx,0,none⟩),tmV p t,.bool false,undef,undef,undef,undef,.pointer (some ⟨w.heap.size,0,none⟩),.int .i64 t.kind,.agg #[.int .i64 t.kind,.int .i64 0,.string ⟨#[]⟩,.int .i64 0,.int .i64 0,.slice none 0 0,.slice none 0 0,.slice none 0 0],tmV p t,.func (.func 117) #[] #[.pointer (some ⟨W1.heap.size,0,none⟩)],.int .i64 (moreZ t x),tmV (q x) (kidF t x),undef,undef,undef,undef,undef,undef,undef,undef,undef,undef,undef,undef,undef,undef],defers:=[] })
    (fun x a' _ X Y row hs hg hr=>by
     obtain ⟨Bx,h1,h2,h3,h4⟩:=hs
     refine ⟨Bx,h1,(hg.block _ (blk_lt h2) (fun e=>by obtain ⟨o,ho,hc⟩:=(hr _ e.symm).2;rw [h2] at ho;cases ho;cases hc)).trans h2,fun V hV=>?_,h4⟩
     by_cases hz:w1.heap.size<X.heap.size
     ·exact h3 V ((hg.block _ hz (fun e=>by have:=(hr _ e.symm).1;omega)).symm.trans hV)
     ·exact absurd (blk_lt h2) (by omega))
    ?assign ?body ?done ?stop
   case assign =>
    rintro l pre x W K ⟨V,hVO,hKT,hCW⟩ hK
    dsimp only [encK,tmV]
    have hb1:Below W.heap.size W (W.alloc (tmO (q x) (kidF t x))):=below_alloc (Below.refl _ _) _
    have HKK:=Ak (hK { tmps:=#[tmV p t,.int .i64 b,vrIs gv,.pointer (some ⟨w.heap.size,0,none⟩),.pointer (some ⟨w.heap.size+1,0,none⟩),.pointer (some ⟨w.heap.size+1+1,0,none⟩),.pointer (some ⟨w.heap.size+1+1+1,0,none⟩),.pointer (some ⟨w1.heap.size,0,none⟩),.int .i64 (moreZ t x),.pointer (some ⟨W.heap.size,0,none⟩),tmV p t,.bool false,undef,undef,undef,undef,.pointer (some ⟨w.heap.size,0,none⟩),.int .i64 t.kind,.agg #[.int .i64 t.kind,.int .i64 0,.string ⟨#[]⟩,.int .i64 0,.int .i64 0,.slice none 0 0,.slice none 0 0,.slice none 0 0],tmV p t,.func (.func 117) #[] #[.pointer (some ⟨W1.heap.size,0,none⟩)],.int .i64 (moreZ t x),tmV (q x) (kidF t x),undef,undef,undef,undef,undef,undef,undef,undef,undef,undef,undef,undef,undef,undef],defers:=[] } _ (KeepsFrom.of_chg (Chg.of_below (S:=fun _=>False) hb1) (fun k h=>h.elim)) ⟨hb1.size,fun k hk _=>hb1.block k (by have:=hCW.size;omega)⟩ ⟨V,blk_alloc hVO _,hKT.later hb1,chg_trans hCW (Chg.of_below hb1)⟩
     ⟨W.heap.size,hCW.size,blk_new _ _,fun V' hV'=>by
      have e1:=(blk_alloc hVO (tmO (q x) (kidF t x))).symm.trans hV'
      obtain rfl:V=V':=by injection e1 with e1;injection e1 with e1;injection e1 with e1;simpa using e1
      obtain ⟨cells,qq,ho,_⟩:=hKT
      intro e
      have:=own_lt ho _ e
      omega,rfl⟩)
    clear hK hKT hCW hVO hb1
    gi_wp2
    exact HKK.out
   case body =>
    rintro l pre x a' W hl ⟨r,hr⟩ ⟨V,hVO,hKT,hCW⟩ ⟨Bx,hBx,bX,hVB,rfl⟩ hlt
    have hVB2:=hVB V hVO
    obtain ⟨cells,qq,hown,hkids⟩:=hKT
    obtain ⟨A9,c9,rfl⟩:=own_slice hown
    have hszW:=hCW.size
    have hn3:=nK_le3 t
    have HPL:=Ak (rebKids_len RF t b pre)
    have hmz:=moreZ_in t x
    have HDK:=Ak (depth_kid t x)
    have hbm:0≤b+moreZ t x∧b+moreZ t x≤2000000:=by omega
    have st:∀ j,j<w1.heap.size→W.heap[j]?=w1.heap[j]?:=fun j h1=>(hCW.block j (by omega) (by omega)).trans (HBB.out.block j h1)
    have hX1:=(st _ (by omega)).trans HX11.out
    have hX2:=(st _ (by omega)).trans HX21.out
    have HIH:=Ak (show ∀ w',W.heap.size≤w'.heap.size→(∀ k,k<g1→w'.heap[k]?=W.heap[k]?)→Calls Try.prog 60 #[tmV (q x) (kidF t x),.int .i64 (b+moreZ t x),vrIs gv] w' (TmGot w' S (rebP RF (kidF t x) (b+moreZ t x))) from fun w' hz hs=>by
     have hs2:∀ k,k<g1→w'.heap[k]?=w.heap[k]?:=fun k hk=>(hs k hk).trans ((st k (by omega)).trans (HB1.out.block k (by omega)))
     have hs3:∀ k,k<g1→w'.heap[k]?=w2.heap[k]?:=fun k hk=>(hs2 k hk).trans ((HBB.out.block k (by omega)).trans (HB1.out.block k (by omega))).symm
     exact IH.out (kidF t x) (by have:=kidF_lt t x;have:=HNN.out;omega) (q x) (b+moreZ t x) w' (by omega) (by have:=HBD.out;have:=HDK.out;omega) (by omega) ((HQ.out x _ (kidF_get t x)).2.same fun k hk _=>hs3 k (Nat.lt_of_lt_of_le (HSS.out _ hk) h01)) (HRP.out _ _ HR.out hs2))
    have HKID:=Ak hkids
    have HOWN:=Ak hown
    have HBX:=Ak bX
    have HVO:=Ak hVO
    have HCW:=Ak hCW
    obtain ⟨L,hL⟩:∃ L,(rebKids RF t b pre).length=L:=⟨_,rfl⟩
    have hL3:L≤3:=by rw [← hL,HPL.out];omega
    have HLE:=Ak hL
    clear st hl hVB hkids hown bX hVO hCW
    rw [hL] at hVB2 HOWN HVO HKID
    clear hL
    refine wpIn_block ?_
    refine rb_region ?hq W S w1.heap.size Bx (w.heap.size+1) (w.heap.size+1+1) w2.heap.size g0 g1 L c9 A9 cells t.kind b (moreZ t x) (q x) (kidF t x) (rebP RF (kidF t x) (b+moreZ t x)) (vrIs gv) HSS.out HVO.out HBX.out hX1 hX2 HOWN.out (by omega) (by omega) (by omega) hVB2 (by omega) (by omega) (by omega) (by omega) (by omega) (by omega) HIH.out ?_
    case hq =>
     rintro ⟨a1,wx,h⟩
     exact h
    intro w' u30 u32 u33 u34 O9 O11 v12 O12 v14 O14 hch _ _ h11 _ h12 hO12 h14 _ hap
    have hfin:=reb_round HLE.out HKID.out HOWN.out hch h12 hO12 (fun h=>hap _ h h14.2) (by omega) (by omega) (by omega) HSS.out
    have hsn:=rebKids_snoc RF t b pre x
    have hz':=hch.size
    have hC2:Chg (fun k=>k=w1.heap.size) w2 w':=⟨hch.os.trans HCW.out.os,hch.tape.trans HCW.out.tape,hch.output.trans HCW.out.output,Nat.le_trans HCW.out.size hch.size,fun k hk hn=>(hch.block k (by omega) (fun e=>e.elim (fun e=>by have:=own_base HOWN.out k e;omega) hn)).trans (HCW.out.block k hk hn)⟩
    exact ⟨⟨hch.size,fun k o hBk ho hc=>(hch.block k (blk_lt ho) (fun e=>e.elim (fun e=>own_cells HOWN.out e ho hc) (fun e=>by have e:k=w1.heap.size:=e;omega))).trans ho⟩,⟨hch.size,fun k hk hg=>hch.block k (by omega) (fun e=>e.elim (fun e=>by have:=own_base HOWN.out k e;omega) hg)⟩,u33,h14.1,by rw [hsn];exact hfin,hC2⟩
   case stop =>
    rintro D c pre WW hD hSp hf hKW
    exact hf.elim
   case done =>
    rintro D ys W hD rfl ⟨V,hVO,hKT,hCW⟩ hK
    obtain ⟨K9,e9,rfl,hterm⟩:=hKT.term
    have HTM:=Ak (hterm t.kind 0 noName ⟨by decide,by decide,by simp⟩)
    have hszW:=hCW.size
    have hres:=(hCW.block (w.heap.size+1+1+1) (by omega) (by omega)).trans ((HBB.out.block _ (by omega)).trans HX31.out)
    have HRES:=Ak hres
    have HKD:=Ak hK
    have HCW:=Ak hCW
    obtain ⟨o0,o1,o2,o3,o4,o5,o6,o7,-,-,-,-,-,-,-,-⟩:=row8c hVO
    obtain ⟨r0,r1,r2,r3,r4,r5,r6,r7,f0,f1,f2,f3,f4,f5,f6,f7⟩:=row8c hres
    have hz5:w1.heap.size<W.heap.size:=by omega
    have hne5:w1.heap.size≠w.heap.size+1+1+1:=by omega
    obtain ⟨m9,hm9⟩:∃ m,(rebKids RF t b (List.finRange (nK t))).length=m:=⟨_,rfl⟩
    have HM9:=Ak hm9
    rw [hm9] at o7
    clear hVO hKT hCW hK hterm hres hm9
    gi_wp2
    have hch:=chg_set8 W (w.heap.size+1+1+1) (.int .i64 t.kind) (.int .i64 0) (.string ⟨#[]⟩) (.int .i64 0) (.int .i64 0) (.slice none 0 0) (.slice none 0 0) (.slice K9 m9 e9)
    have hx5:=set8 (a0:=.int .i64 t.kind) (a1:=.int .i64 0) (a2:=.string ⟨#[]⟩) (a3:=.int .i64 0) (a4:=.int .i64 0) (a5:=.slice none 0 0) (a6:=.slice none 0 0) (a7:=.slice K9 m9 e9) HRES.out
    obtain ⟨WW,hWW⟩:∃ WW,WW=((((((((W.setCell ⟨w.heap.size+1+1+1,0,none⟩ (.int .i64 t.kind)).setCell ⟨w.heap.size+1+1+1,1,none⟩ (.int .i64 0)).setCell ⟨w.heap.size+1+1+1,2,none⟩ (.string ⟨#[]⟩)).setCell ⟨w.heap.size+1+1+1,3,none⟩ (.int .i64 0)).setCell ⟨w.heap.size+1+1+1,4,none⟩ (.int .i64 0)).setCell ⟨w.heap.size+1+1+1,5,none⟩ (.slice none 0 0)).setCell ⟨w.heap.size+1+1+1,6,none⟩ (.slice none 0 0)).setCell ⟨w.heap.size+1+1+1,7,none⟩ (.slice K9 m9 e9)):=⟨_,rfl⟩
    rw [← hWW] at hch hx5 ⊢
    clear hWW
    have hszV:=hch.size
    have hKW:WW.heap[D]?=some (.deferred (some [])):=(hch.block D (blk_lt HKD.out) (by omega)).trans HKD.out
    have hp:=chg_put WW D (.deferred none)
    have hx6:(WW.putObj D (.deferred none)).heap[w.heap.size+1+1+1]?=some (.cells #[.int .i64 t.kind,.int .i64 0,.string ⟨#[]⟩,.int .i64 0,.int .i64 0,.slice none 0 0,.slice none 0 0,.slice K9 m9 e9] 28 (0,0)):=(hp.block _ (blk_lt hx5) (by omega)).trans hx5
    refine ⟨by simp,.inl ⟨_,_,rfl,run_takeDeferred hKW,?_⟩⟩
    refine ⟨_,results_c rfl _ _ (w.heap.size+1+1+1) 28 #[.int .i64 t.kind,.int .i64 0,.string ⟨#[]⟩,.int .i64 0,.int .i64 0,.slice none 0 0,.slice none 0 0,.slice K9 m9 e9] (0,0) _ rfl hx6 Try.underlying28 rfl (by kernel_rfl),?_⟩
    rw [HE.out]
    have hnD:∀ k,CellsB W k→k≠D:=by
     rintro k ⟨cs,tt,fr,hk⟩ e
     rw [e,HKD.out] at hk
     cases hk
    refine ⟨⟨none,0,none,0,K9,e9⟩,by unfold tmV;rw [← HM9.out];rfl,((HTM.out.cells).same fun k hk hz=>(hp.block k (by omega) (hnD k hk.2)).trans (hch.block k hz (by rcases hk.1 with h | h;have:=HSS.out _ h;omega;omega))).mono fun k hk _=>hk.1.imp id fun h=>by omega,?_⟩
    refine Chg.trans_below (S:=fun k=>k=w1.heap.size∨k=w.heap.size+1+1+1∨k=D) (Below.trans HB1.out (HBB.out.mono HB1.out.size)) ?_ (fun k h=>by omega) (by have:=HB1.out.size;omega)
    exact chg_trans (HCW.out.mono fun k h=>.inl h) (chg_trans (hch.mono fun k h=>.inr (.inl h)) (hp.mono fun k h=>.inr (.inr h)))
end Go.Proofs.Ytdboloabpjmgaaa

namespace Go.Proofs.Ytdboloabpjmgaaa
open Go.RowKit Go.Shelf Go.Proofs.YtdboloabpjmgaaaW.PrintWords Go.RegionInvYtdboloabpjmgaaa
attribute [local go_sem] Oper.semAt_some

abbrev vfPl (g1 g2:Nat):Value:=.func (.func 59) #[] #[.pointer (some ⟨g1,0,none⟩),.pointer (some ⟨g2,0,none⟩)]
abbrev foWPl (w:World) (p:Pl) (t:Tm) (d b:Int) (g1 g2:Nat):World:=
 ((((w.alloc (tmO p t)).alloc (.cells #[.int .i64 d] 3 (0,0))).alloc (.cells #[.int .i64 b] 3 (0,0))).alloc (.cells #[vfPl g1 g2] 66 (0,0))).alloc (.cells #[.bool false] 4 (0,0))
set_option maxRecDepth 100000 in
set_option maxHeartbeats 16000000 in
theorem fold_Pl {σ:Type} (F:Tm→Int→Int→σ→Bool × σ) (Rep:σ→World→Prop) (Inv:σ→Prop) (P:Tm→Int→Prop) (G:Nat→Prop) (B g0:Nat) (g1 g2:Nat)
  (hG:∀ k,G k→B≤k∧k<g0) (hBg:B≤g0) (hRep:∀ (s:σ) (W W':World),Rep s W→(∀ k,G k→W'.heap[k]?=W.heap[k]?)→Rep s W')
  (hvis:∀ (t:Tm) (p:Pl) (d b:Int) (s:σ) (w:World),P t d→0≤b→b≤d→Inv s→g0≤w.heap.size→TmIn w B p t→Rep s w→Calls Try.prog 59 #[tmV p t,.int .i64 d,.int .i64 b,.pointer (some ⟨g1,0,none⟩),.pointer (some ⟨g2,0,none⟩)] w (FoldPost Rep G w (F t d b s)))
  (hF:∀ (t:Tm) (d b:Int) (s:σ),P t d→Inv s→(F t d b s).1=true→Inv (F t d b s).2∧∀ i:Fin (nK t),P (kidF t i) (d+1)) (hP:∀ t d,P t d→0≤d∧d≤100000)
  (N:Nat):∀ (t:Tm),SizeOf.sizeOf t<N→∀ (p:Pl) (d b:Int) (s:σ) (w:World),P t d→0≤b→b≤d→Inv s→g0≤w.heap.size→TmIn w B p t→Rep s w →
  Calls Try.prog 58 #[tmV p t,.int .i64 d,.int .i64 b,vfPl g1 g2] w (FoldPost Rep G w (foldP F t d b s)):=by
 induction N with
 | zero=>intro t h;omega
 | succ N ih =>
  intro t hN p d b s w hPd hb0 hbd hI hg hin hR
  have IH:=Ak ih
  have HG:=Ak hG
  have HRP:=Ak hRep
  have HVS:=Ak hvis
  have HF:=Ak hF
  have HP:=Ak hPd
  have HI:=Ak hI
  have HIN:=Ak hin
  have HR:=Ak hR
  have HNN:=Ak hN
  have hd:=hP t d hPd
  have HPP:=Ak hP
  have hz0:(foWPl w p t d b g1 g2).heap.size=w.heap.size+5:=by simp
  have hb0w:Below w.heap.size w (foWPl w p t d b g1 g2):=below_alloc (below_alloc (below_alloc (below_alloc (below_alloc (Below.refl _ _) _) _) _) _) _
  have HZ0:=Ak hz0
  have HB0:=Ak hb0w
  have HX0:=Ak (show (foWPl w p t d b g1 g2).heap[w.heap.size]?=some (tmO p t) from blk_alloc (blk_alloc (blk_alloc (blk_alloc (blk_new _ _) _) _) _) _)
  have HX1:=Ak (show (foWPl w p t d b g1 g2).heap[w.heap.size+1]?=some (.cells #[.int .i64 d] 3 (0,0)) by have:=blk_new (w.alloc (tmO p t)) (.cells #[.int .i64 d] 3 (0,0));simp only [World.size_alloc] at this;exact blk_alloc (blk_alloc (blk_alloc this _) _) _)
  have HX2:=Ak (show (foWPl w p t d b g1 g2).heap[w.heap.size+1+1]?=some (.cells #[.int .i64 b] 3 (0,0)) by have:=blk_new ((w.alloc (tmO p t)).alloc (.cells #[.int .i64 d] 3 (0,0))) (.cells #[.int .i64 b] 3 (0,0));simp only [World.size_alloc] at this;exact blk_alloc (blk_alloc this _) _)
  have HX3:=Ak (show (foWPl w p t d b g1 g2).heap[w.heap.size+1+1+1]?=some (.cells #[vfPl g1 g2] 66 (0,0)) by have:=blk_new (((w.alloc (tmO p t)).alloc (.cells #[.int .i64 d] 3 (0,0))).alloc (.cells #[.int .i64 b] 3 (0,0))) (.cells #[vfPl g1 g2] 66 (0,0));simp only [World.size_alloc] at this;exact blk_alloc this _)
  have HX4:=Ak (show (foWPl w p t d b g1 g2).heap[w.heap.size+1+1+1+1]?=some (.cells #[.bool false] 4 (0,0)) by have:=blk_new ((((w.alloc (tmO p t)).alloc (.cells #[.int .i64 d] 3 (0,0))).alloc (.cells #[.int .i64 b] 3 (0,0))).alloc (.cells #[vfPl g1 g2] 66 (0,0))) (.cells #[.bool false] 4 (0,0));simp only [World.size_alloc] at this;exact this)
  have hR0:Rep s (foWPl w p t d b g1 g2):=hRep _ _ _ hR fun k hk=>hb0w.block k (Nat.lt_of_lt_of_le (hG k hk).2 hg)
  have HR0:=Ak hR0
  have HIN0:=Ak (hin.stay (hb0w.mono (Nat.le_trans hBg hg)))
  have HGG:=Ak (show ∀ k,G k→k<w.heap.size from fun k hk=>Nat.lt_of_lt_of_le (hG k hk).2 hg)
  clear ih hG hRep hvis hF hPd hI hin hR hN hP hz0 hb0w hR0
  unfold tmV vfPl
  refine (callsIn_wide (n:=5)).1 ?_
  refine callsIn_of_wp_marks Try.func58 rfl trivial ?_ rfl
  simp only [Try.ntmps58,List.size_toArray,List.length_cons,List.length_nil,Nat.reduceAdd,Nat.reduceSub,Array.replicate_succ,Array.replicate_zero,List.push_toArray,List.append_toArray,List.nil_append,List.cons_append]
  obtain ⟨e1,s1,hes⟩:∃ x y,F t d b s=(x,y):=⟨_,_,rfl⟩
  have HV:=Ak hes
  cases e1 with
  | false =>
   have HE:=Ak (show foldP F t d b s=(false,s1) by rw [foldP_stop (by rw [hes]),hes])
   clear hes
   gi_wp2
   refine ⟨trivial,?_⟩
   gi_at_call 59
   refine (callsIn_wide.2 (HVS.out t p d b s _ HP.out hb0 hbd HI.out (Nat.le_trans hg HB0.out.size) HIN0.out HR0.out)).mono ?_
   rintro e w1 ⟨rfl,hR1,hC1⟩
   rw [HV.out] at hR1 ⊢
   have HR1:=Ak hR1
   have HC1:=Ak hC1
   have hx4:=(hC1.block _ (by rw [HZ0.out];omega) (fun h=>by have:=HGG.out _ h;omega)).trans HX4.out
   have HX41:=Ak hx4
   have c4:w1.cell? ⟨w.heap.size+1+1+1+1,0,none⟩=some (.bool false):=by (rw [cell_of_row _ _ _ _ _ _ hx4];rfl)
   have f4:=blk_frozen hx4 0
   clear hR1 hC1 hx4
   gi_wp2
   have hc5:(w1.setCell ⟨w.heap.size+1+1+1+1,0,none⟩ (.bool false)).cell? ⟨w.heap.size+1+1+1+1,0,none⟩=some (.bool false):=World.cell?_setCell_same' _ _ _ (by rw [c4];rfl)
   refine ⟨.bool false,?_,?_⟩
   ·simp [results,Try.f58,go_sem,hc5]
   ·rw [HE.out]
    refine ⟨rfl,HRP.out _ _ _ HR1.out (fun k hk=>(chg_set w1 (w.heap.size+1+1+1+1) 0 (.bool false)).block k (by have:=HC1.out.size;have:=HZ0.out;have:=HGG.out k hk;omega) (fun e=>by have:=HGG.out k hk;omega)),?_⟩
    exact chg_cut (Chg.of_below HB0.out) (HC1.out.mono fun k h=>.inl h) ((chg_set w1 _ 0 _).mono fun k h=>.inr (by have h:k=w.heap.size+1+1+1+1:=h;omega))
  | true =>
   have h2:=HF.out t d b s HP.out HI.out (by rw [hes])
   rw [hes] at h2
   have HI1:=Ak h2.1
   have HPK:=Ak h2.2
   have HE:=Ak (show foldP F t d b s=runL (fun (i:Fin (nK t)) s=>foldP F (kidF t i) (d+1) (b+moreZ t i) s) (List.finRange (nK t)) s1 by rw [foldP_go (by rw [hes]),hes])
   clear hes h2
   gi_wp2
   refine ⟨trivial,?_⟩
   gi_at_call 59
   refine (callsIn_wide.2 (HVS.out t p d b s _ HP.out hb0 hbd HI.out (Nat.le_trans hg HB0.out.size) HIN0.out HR0.out)).mono ?_
   rintro e w1 ⟨rfl,hR1,hC1⟩
   rw [HV.out] at hR1 ⊢
   have HR1:=Ak hR1
   have HC1:=Ak hC1
   have hgn:∀ j,w.heap.size≤j→¬ G j:=fun j hj h=>by have:=HGG.out j h;omega
   have hX0:=(hC1.block w.heap.size (by rw [HZ0.out];omega) (hgn _ (by omega))).trans HX0.out
   have hX1:=(hC1.block _ (by rw [HZ0.out];omega) (hgn _ (by omega))).trans HX1.out
   have hX2:=(hC1.block _ (by rw [HZ0.out];omega) (hgn _ (by omega))).trans HX2.out
   have hX3:=(hC1.block _ (by rw [HZ0.out];omega) (hgn _ (by omega))).trans HX3.out
   have hX4:=(hC1.block _ (by rw [HZ0.out];omega) (hgn _ (by omega))).trans HX4.out
   have hz1:=hC1.size
   rw [HZ0.out] at hz1
   have HX01:=Ak hX0
   have HX11:=Ak hX1
   have HX21:=Ak hX2
   have HX31:=Ak hX3
   have HX41:=Ak hX4
   have HGN:=Ak hgn
   have HIN1:=Ak (HIN0.out.same (w':=w1) fun k hk hz=>hC1.block k hz (fun h=>by have:=(HG.out k h).1;omega))
   obtain ⟨c0,c1,c2,c3,c4,c5,c6,c7⟩:=row8 hX0
   clear hR1 hC1 hX0 hX1 hX2 hX3 hX4 hgn
   gi_wp2
   refine ⟨trivial,?_⟩
   gi_at_call 96
   refine (callsIn_wide.2 (tkids_calls p t _)).mono ?_
   rintro e w2 ⟨rfl,hw2⟩
   have HZX2:=Ak (show w2.heap[w1.heap.size]?=some (tmO p t) by rw [hw2];exact blk_new _ _)
   have HB2:=Ak (show Below w1.heap.size w1 w2 by rw [hw2];exact below_alloc (Below.refl _ _) _)
   clear hw2 c0 c1 c2 c3 c4 c5 c6 c7
   gi_wp2
   obtain ⟨q,hq⟩:=(HIN1.out.later HB2.out).kid
   have HQ:=Ak hq
   have hlen:=HIN1.out.len
   have hz2:=HB2.out.size
   have hzz:=blk_lt HZX2.out
   have hgl:∀ k,G k→k<w2.heap.size:=fun k hk=>by have:=HGG.out k hk;omega
   have HGL:=Ak hgl
   have HINV:=Ak (foldP_inv HF.out)
   clear hq
   refine wpIn_rangeFunc_ownH (F:=Fence.wide) rfl (by decide) (gf:=117) (lb:=#[.pointer (some ⟨w1.heap.size,0,none⟩)]) rfl trivial (enters_of Try.func117 (by kernel_rfl) rfl)
    (kids_stops (5 - 1) (by decide) p t q w1.heap.size w2.heap.size G (fun k=>k<B) w2 HZX2.out hzz (Nat.le_refl _) (HGN.out _ (by omega)) (fun k hk=>⟨by omega,fun h=>by have:=(HG.out k h).1;omega⟩) (by omega) (fun i x hx=>(HQ.out i x hx).1))
    kpG_trans (kpG_put (Nat.le_refl _)) (Below.refl _ _) (fun _=>rfl)
    (fun pre W=>((runL (fun (i:Fin (nK t)) s=>foldP F (kidF t i) (d+1) (b+moreZ t i) s) pre s1).1=true∧Inv (runL (fun (i:Fin (nK t)) s=>foldP F (kidF t i) (d+1) (b+moreZ t i) s) pre s1).2)∧Rep (runL (fun (i:Fin (nK t)) s=>foldP F (kidF t i) (d+1) (b+moreZ t i) s) pre s1).2 W∧Chg G w2 W)
    (fun c pre W=>(c=.ret∧(runL (fun (i:Fin (nK t)) s=>foldP F (kidF t i) (d+1) (b+moreZ t i) s) pre s1).1=false)∧(Rep (runL (fun (i:Fin (nK t)) s=>foldP F (kidF t i) (d+1) (b+moreZ t i) s) pre s1).2 W∧W.heap[w.heap.size+1+1+1+1]?=some (.cells #[.bool false] 4 (0,0)))∧Chg (fun k=>G k∨k=w.heap.size+1+1+1+1) w2 W)
    (fun pre X Y row hs hg hr=>⟨hs.1,HRP.out _ X Y hs.2.1 (fun k hk=>hg.block k (Nat.lt_of_lt_of_le (HGL.out k hk) hs.2.2.size) (fun e=>by have:=(hr k e.symm).1;have:=HGL.out k hk;omega)),chg_grown hs.2.2 hg (fun r e=>(hr r e).1)⟩)
    (fun c pre X Y row hs hg hr=>⟨hs.1,⟨HRP.out _ X Y hs.2.1.1 (fun k hk=>hg.block k (Nat.lt_of_lt_of_le (HGL.out k hk) hs.2.2.size) (fun e=>by have:=(hr k e.symm).1;have:=HGL.out k hk;omega)),(hg.block _ (blk_lt hs.2.1.2) (fun e=>by have:=(hr _ e.symm).1;omega)).trans hs.2.1.2⟩,chg_grown hs.2.2 hg (fun r e=>(hr r e).1)⟩)
    ⟨⟨rfl,HI1.out⟩,HRP.out _ w1 w2 HR1.out (fun k hk=>HB2.out.block k (by have:=HGG.out k hk;omega)),Chg.refl _ _⟩
    (fun x a' W=>∃ Bx,w2.heap.size≤Bx∧W.heap[Bx]?=some (tmO (q x) (kidF t x))∧a' = { tmps:=#[tmV p t,.int .i64 d,.int .i64 b,vfPl g1 g2,.pointer (some ⟨w.heap.size,0,none⟩),.pointer (some ⟨w.heap.size+1,0,none⟩),.pointer (some ⟨w.heap.size+1+1,0,none⟩),.pointer (some ⟨w.heap.size+1+1+1,0,none⟩),.pointer (some ⟨w.heap.size+1+1+1+1,0,none⟩),.int .i64 (moreZ t x),.pointer (some ⟨Bx,0,none⟩),vfPl g1 g2,tmV p t,.int .i64 d,.int .i64 b,.bool true,.bool false,tmV p t,.func (.func 117) #[] #[.pointer (some ⟨w1.heap.size,0,none⟩)],.int .i64 (moreZ t x),tmV (q x) (kidF t x),undef,undef,undef,undef,undef,undef,undef,undef,undef],defers:=[] })
    (fun x a' _ X Y row hs hg hr=>by obtain ⟨Bx,h1,h2,h3⟩:=hs;exact ⟨Bx,h1,(hg.block _ (blk_lt h2) (fun e=>by obtain ⟨o,ho,hc⟩:=(hr _ e.symm).2;rw [h2] at ho;cases ho;cases hc)).trans h2,h3⟩)
    ?assign ?body ?done ?stop
   case assign =>
    rintro l pre x W K ⟨hA,hRW,hCW⟩ hK
    dsimp only [encK,tmV]
    have hAA:=Ak hA
    have hb1:Below W.heap.size W (W.alloc (tmO (q x) (kidF t x))):=below_alloc (Below.refl _ _) _
    have HKK:=Ak (hK { tmps:=#[tmV p t,.int .i64 d,.int .i64 b,vfPl g1 g2,.pointer (some ⟨w.heap.size,0,none⟩),.pointer (some ⟨w.heap.size+1,0,none⟩),.pointer (some ⟨w.heap.size+1+1,0,none⟩),.pointer (some ⟨w.heap.size+1+1+1,0,none⟩),.pointer (some ⟨w.heap.size+1+1+1+1,0,none⟩),.int .i64 (moreZ t x),.pointer (some ⟨W.heap.size,0,none⟩),vfPl g1 g2,tmV p t,.int .i64 d,.int .i64 b,.bool true,.bool false,tmV p t,.func (.func 117) #[] #[.pointer (some ⟨w1.heap.size,0,none⟩)],.int .i64 (moreZ t x),tmV (q x) (kidF t x),undef,undef,undef,undef,undef,undef,undef,undef,undef],defers:=[] } _ (KeepsFrom.of_chg (Chg.of_below (S:=fun _=>False) hb1) (fun k h=>h.elim)) ⟨hb1.size,fun k hk _=>hb1.block k (by have:=hCW.size;omega)⟩ ⟨hA,HRP.out _ _ _ hRW (fun k hk=>hb1.block k (by have:=HGL.out k hk;have:=hCW.size;omega)),chg_trans hCW (Chg.of_below hb1)⟩ ⟨W.heap.size,hCW.size,blk_new _ _,rfl⟩)
    clear hK hA hAA hb1
    gi_wp2
    exact HKK.out
   case body =>
    rintro l pre x a' W hl ⟨r,hr⟩ ⟨⟨hA,hIv⟩,hRW,hCW⟩ ⟨Bx,hBx,bX,rfl⟩ hlt
    obtain ⟨sp,hsp⟩:∃ sp,runL (fun (i:Fin (nK t)) s=>foldP F (kidF t i) (d+1) (b+moreZ t i) s) pre s1=(true,sp):=⟨_,Prod.ext hA rfl⟩
    rw [hsp] at hIv hRW
    have HSP:=Ak hsp
    obtain ⟨ev,s2,hev⟩:∃ ev s2,foldP F (kidF t x) (d+1) (b+moreZ t x) sp=(ev,s2):=⟨_,_,rfl⟩
    have HEV:=Ak hev
    have HSN:=Ak (show runL (fun (i:Fin (nK t)) s=>foldP F (kidF t i) (d+1) (b+moreZ t i) s) (pre ++ [x]) s1=(ev,s2) by rw [runL_snoc,hsp];exact hev)
    have HIV2:=Ak (show ev=true→Inv s2 from fun h=>by have:=HINV.out _ (kidF t x) (Nat.lt_succ_self _) (d+1) (b+moreZ t x) sp (HPK.out x) hIv (by rw [hev];exact h);rwa [hev] at this)
    have HIV:=Ak hIv
    have HRW:=Ak hRW
    have HCW:=Ak hCW
    have HKD:=Ak ((HQ.out x _ (kidF_get t x)).2.same (w':=W) fun k hk hz=>hCW.block k hz (fun h=>by have:=(HG.out k h).1;omega))
    have hszW:=hCW.size
    have st:∀ j,w.heap.size≤j→j<w1.heap.size→W.heap[j]?=w1.heap[j]?:=fun j h1 h2=>(hCW.block j (by omega) (HGN.out j h1)).trans (HB2.out.block j h2)
    have c1:W.cell? ⟨w.heap.size+1,0,none⟩=some (.int .i64 d):=by rw [cell_of_row _ _ _ _ _ _ ((st _ (by omega) (by omega)).trans HX11.out)];rfl
    have c2:W.cell? ⟨w.heap.size+1+1,0,none⟩=some (.int .i64 b):=by rw [cell_of_row _ _ _ _ _ _ ((st _ (by omega) (by omega)).trans HX21.out)];rfl
    have c3:W.cell? ⟨w.heap.size+1+1+1,0,none⟩=some (vfPl g1 g2):=by rw [cell_of_row _ _ _ _ _ _ ((st _ (by omega) (by omega)).trans HX31.out)];rfl
    have X4:=Ak ((st _ (by omega) (by omega)).trans HX41.out)
    obtain ⟨b0,b1,b2,b3,b4,b5,b6,b7⟩:=row8 bX
    obtain ⟨hd0,hd1⟩:=hd
    have hmz:=moreZ_in t x
    obtain ⟨hm0,hm1⟩:=hmz
    have HMZ:=Ak (show b+moreZ t x≤d+1 by omega)
    clear hA hIv hRW hCW hsp hev st bX hr hlt
    cases ev with
    | true =>
     gi_wp2
     refine ⟨trivial,?_⟩
     gi_at_call 58
     refine (CallsIn.inRound l (callsIn_wide.2 (IH.out (kidF t x) (by have:=kidF_lt t x;have:=HNN.out;omega) (q x) (d+1) (b+moreZ t x) sp W (HPK.out x) (by omega) HMZ.out HIV.out (by omega) HKD.out HRW.out))).mono ?_
     rintro e w3 ⟨rfl,hR3,hC3⟩
     rw [HEV.out] at hR3 ⊢
     have HR3:=Ak hR3
     have HC3:=Ak hC3
     clear hR3 hC3
     gi_wp2
     refine ⟨KeepsFrom.of_chg HC3.out HGL.out,⟨HC3.out.size,fun k hk hg=>HC3.out.block k (by omega) hg⟩,⟨?_,?_⟩,?_,chg_trans HCW.out HC3.out⟩
     ·rw [HSN.out]
     ·rw [HSN.out];exact HIV2.out (by simp)
     ·rw [HSN.out];exact HR3.out
    | false =>
     gi_wp2
     refine ⟨trivial,?_⟩
     gi_at_call 58
     refine (CallsIn.inRound l (callsIn_wide.2 (IH.out (kidF t x) (by have:=kidF_lt t x;have:=HNN.out;omega) (q x) (d+1) (b+moreZ t x) sp W (HPK.out x) (by omega) HMZ.out HIV.out (by omega) HKD.out HRW.out))).mono ?_
     rintro e w3 ⟨rfl,hR3,hC3⟩
     rw [HEV.out] at hR3 ⊢
     have HR3:=Ak hR3
     have HC3:=Ak hC3
     have hx4:=(hC3.block _ (by omega) (HGN.out _ (by omega))).trans X4.out
     have X43:=Ak hx4
     have c4:w3.cell? ⟨w.heap.size+1+1+1+1,0,none⟩=some (.bool false):=by (rw [cell_of_row _ _ _ _ _ _ hx4];rfl)
     have f4:=blk_frozen hx4 0
     clear hR3 hC3 hx4
     gi_wp2
     have hch:=chg_set w3 (w.heap.size+1+1+1+1) 0 (.bool false)
     have hsz3:=HC3.out.size
     refine ⟨KeepsFrom.of_chg (S:=fun k=>G k∨k=w.heap.size+1+1+1+1) (chg_trans (HC3.out.mono fun k h=>.inl h) (hch.mono fun k h=>.inr h)) (fun k h=>h.elim (fun h=>HGL.out k h) (fun h=>by omega)),⟨rfl,?_⟩,⟨?_,?_⟩,?_⟩
     ·rw [HSN.out]
     ·rw [HSN.out];exact HRP.out _ _ _ HR3.out fun k hk=>hch.block k (by have:=HGL.out k hk;omega) (fun e=>HGN.out k (by have e:k=_:=e;omega) hk)
     ·exact blk_put X43.out 0 _ rfl
     ·exact chg_trans (HCW.out.mono fun k h=>.inl h) (chg_trans (HC3.out.mono fun k h=>.inl h) (hch.mono fun k h=>.inr h))
   case done =>
    rintro D ys W hD rfl ⟨⟨hA,hIv⟩,hRW,hCW⟩ hK
    obtain ⟨sp,hsp⟩:∃ sp,runL (fun (i:Fin (nK t)) s=>foldP F (kidF t i) (d+1) (b+moreZ t i) s) (List.finRange (nK t)) s1=(true,sp):=⟨_,Prod.ext hA rfl⟩
    rw [hsp] at hRW
    have HRES:=Ak hsp
    have hszW:=hCW.size
    have hx4:=(hCW.block _ (by omega) (HGN.out _ (by omega))).trans ((HB2.out.block _ (by omega)).trans HX41.out)
    have X4:=Ak hx4
    have HRW:=Ak hRW
    have HCW:=Ak hCW
    have HKD:=Ak hK
    have c4:W.cell? ⟨w.heap.size+1+1+1+1,0,none⟩=some (.bool false):=by (rw [cell_of_row _ _ _ _ _ _ hx4];rfl)
    have f4:=blk_frozen hx4 0
    clear hA hIv hsp hRW hCW hx4 hK
    gi_wp2
    have hch:=chg_set W (w.heap.size+1+1+1+1) 0 (.bool true)
    obtain ⟨WW,hWW⟩:∃ WW,WW=W.setCell ⟨w.heap.size+1+1+1+1,0,none⟩ (.bool true):=⟨_,rfl⟩
    have hx5:WW.heap[w.heap.size+1+1+1+1]?=some (.cells #[.bool true] 4 (0,0)):=by rw [hWW];exact blk_put X4.out 0 _ rfl
    rw [← hWW] at hch ⊢
    clear hWW
    have hszV:=hch.size
    have hKW:WW.heap[D]?=some (.deferred (some [])):=(hch.block D (blk_lt HKD.out) (by omega)).trans HKD.out
    have hRWW:Rep sp WW:=HRP.out _ _ _ HRW.out fun k hk=>hch.block k (by have:=HGL.out k hk;omega) (fun e=>HGN.out k (by have e:k=_:=e;omega) hk)
    have hCWW:Chg (fun k=>G k∨w.heap.size≤k) w2 WW:=chg_trans (HCW.out.mono fun k h=>.inl h) (hch.mono fun k h=>.inr (by have h:k=_:=h;omega))
    have hgD:∀ k,G k→k≠D:=fun k hk e=>by have:=HGL.out k hk;omega
    have hp:=chg_put WW D (.deferred none)
    have hc5:(WW.putObj D (.deferred none)).cell? ⟨w.heap.size+1+1+1+1,0,none⟩=some (.bool true):=by
     rw [cell_of_row _ _ _ _ _ _ ((hp.block _ (blk_lt hx5) (by omega)).trans hx5)];rfl
    refine ⟨by simp,.inl ⟨_,_,rfl,run_takeDeferred hKW,?_⟩⟩
    refine ⟨.bool true,?_,?_⟩
    ·simp [results,Try.f58,go_sem,hc5]
    ·rw [HE.out,HRES.out]
     refine ⟨rfl,HRP.out _ _ _ hRWW (fun k hk=>hp.block k (by have:=HGL.out k hk;omega) (hgD k hk)),?_⟩
     refine chg_cut (Chg.of_below HB0.out) (HC1.out.mono fun k h=>.inl h) (chg_trans (chg_trans (Chg.of_below HB2.out) hCWW) (hp.mono fun k h=>.inr (by have h:k=D:=h;omega)))
   case stop =>
    rintro D c pre WW hD hSp ⟨⟨rfl,hA⟩,⟨hRWW,hx5⟩,hCW⟩ hKW
    obtain ⟨sp,hsp⟩:∃ sp,runL (fun (i:Fin (nK t)) s=>foldP F (kidF t i) (d+1) (b+moreZ t i) s) pre s1=(false,sp):=⟨_,Prod.ext hA rfl⟩
    have HRES:=Ak (show runL (fun (i:Fin (nK t)) s=>foldP F (kidF t i) (d+1) (b+moreZ t i) s) (List.finRange (nK t)) s1=(false,sp) by rw [runL_false _ hSp _ hA,hsp])
    rw [hsp] at hRWW
    have hszV:=hCW.size
    have hCWW:Chg (fun k=>G k∨w.heap.size≤k) w2 WW:=hCW.mono fun k h=>h.elim .inl fun h=>.inr (by omega)
    clear hA hsp hSp hCW
    gi_wp2
    have hgD:∀ k,G k→k≠D:=fun k hk e=>by have:=HGL.out k hk;omega
    have hp:=chg_put WW D (.deferred none)
    have hc5:(WW.putObj D (.deferred none)).cell? ⟨w.heap.size+1+1+1+1,0,none⟩=some (.bool false):=by
     rw [cell_of_row _ _ _ _ _ _ ((hp.block _ (blk_lt hx5) (by omega)).trans hx5)];rfl
    refine ⟨by simp,.inl ⟨_,_,rfl,run_takeDeferred hKW,?_⟩⟩
    refine ⟨.bool false,?_,?_⟩
    ·simp [results,Try.f58,go_sem,hc5]
    ·rw [HE.out,HRES.out]
     refine ⟨rfl,HRP.out _ _ _ hRWW (fun k hk=>hp.block k (by have:=HGL.out k hk;omega) (hgD k hk)),?_⟩
     refine chg_cut (Chg.of_below HB0.out) (HC1.out.mono fun k h=>.inl h) (chg_trans (chg_trans (Chg.of_below HB2.out) hCWW) (hp.mono fun k h=>.inr (by have h:k=D:=h;omega)))
end Go.Proofs.Ytdboloabpjmgaaa

namespace Go.Proofs.Ytdboloabpjmgaaa
open Go.RowKit Go.Shelf Go.Proofs.YtdboloabpjmgaaaW.PrintWords Go.RegionInvYtdboloabpjmgaaa Go.RegionEYtdboloabpjmgaaa
attribute [local go_sem] Oper.semAt_some

abbrev vrLi (gf gb:Nat):Value:=.func (.func 97) #[] #[.pointer (some ⟨gf,0,none⟩),.pointer (some ⟨gb,0,none⟩)]
abbrev rbWLi (w:World) (p:Pl) (t:Tm) (b:Int) (gf gb:Nat):World:=
 (((w.alloc (tmO p t)).alloc (.cells #[.int .i64 b] 3 (0,0))).alloc (.cells #[vrLi gf gb] 68 (0,0))).alloc (.cells #[.int .i64 0,.int .i64 0,.string ⟨#[]⟩,.int .i64 0,.int .i64 0,.slice none 0 0,.slice none 0 0,.slice none 0 0] 28 (0,0))
set_option maxRecDepth 100000 in
set_option maxHeartbeats 16000000 in
theorem reb_Li (RF:Tm→Int→Tm) (Rep:World→Prop) (S:Nat→Prop) (g0 g1:Nat) (h01:g0≤g1) (hS:∀ k,S k→k<g0) (gf gb:Nat)
  (hRep:∀ (W W':World),Rep W→(∀ k,k<g1→W'.heap[k]?=W.heap[k]?)→Rep W')
  (hvis:∀ (t:Tm) (p:Pl) (b:Int) (w:World),leafT t=true→0≤b→b≤1000000→g1≤w.heap.size→TmS w S p t→Rep w→Calls Try.prog 97 #[tmV p t,.int .i64 b,.pointer (some ⟨gf,0,none⟩),.pointer (some ⟨gb,0,none⟩)] w (TmGot w S (RF t b)))
  (N:Nat):∀ (t:Tm),SizeOf.sizeOf t<N→∀ (p:Pl) (b:Int) (w:World),0≤b→b+depthT t≤1000000→g1≤w.heap.size→TmS w S p t→Rep w →
  Calls Try.prog 60 #[tmV p t,.int .i64 b,vrLi gf gb] w (TmGot w S (rebP RF t b)):=by
 induction N with
 | zero=>intro t h;omega
 | succ N ih =>
  intro t hN p b w hb0 hb1 hg1 hin hR
  have hg:g0≤w.heap.size:=Nat.le_trans h01 hg1
  have IH:=Ak ih
  have HSS:=Ak hS
  have HRP:=Ak hRep
  have HVS:=Ak hvis
  have HIN:=Ak hin
  have HR:=Ak hR
  have HNN:=Ak hN
  have HBD:=Ak hb1
  have hdp:1≤depthT t:=by rw [depthT];omega
  have hb2:b≤1000000:=by omega
  have hz0:(rbWLi w p t b gf gb).heap.size=w.heap.size+4:=by simp
  have hb0w:Below w.heap.size w (rbWLi w p t b gf gb):=below_alloc (below_alloc (below_alloc (below_alloc (Below.refl _ _) _) _) _) _
  have HX0:=Ak (show (rbWLi w p t b gf gb).heap[w.heap.size]?=some (tmO p t) from blk_alloc (blk_alloc (blk_alloc (blk_new _ _) _) _) _)
  have HX1:=Ak (show (rbWLi w p t b gf gb).heap[w.heap.size+1]?=some (.cells #[.int .i64 b] 3 (0,0)) by have:=blk_new (w.alloc (tmO p t)) (.cells #[.int .i64 b] 3 (0,0));simp only [World.size_alloc] at this;exact blk_alloc (blk_alloc this _) _)
  have HX2:=Ak (show (rbWLi w p t b gf gb).heap[w.heap.size+1+1]?=some (.cells #[vrLi gf gb] 68 (0,0)) by have:=blk_new ((w.alloc (tmO p t)).alloc (.cells #[.int .i64 b] 3 (0,0))) (.cells #[vrLi gf gb] 68 (0,0));simp only [World.size_alloc] at this;exact blk_alloc this _)
  have HX3:=Ak (show (rbWLi w p t b gf gb).heap[w.heap.size+1+1+1]?=some (outK 0 (.slice none 0 0)) by have:=blk_new (((w.alloc (tmO p t)).alloc (.cells #[.int .i64 b] 3 (0,0))).alloc (.cells #[vrLi gf gb] 68 (0,0))) (outK 0 (.slice none 0 0));simp only [World.size_alloc] at this;exact this)
  have HZ0:=Ak hz0
  have HB0:=Ak hb0w
  clear ih hRep hvis hin hR hN hz0 hb0w hb1
  unfold tmV vrLi
  refine (callsIn_wide (n:=5)).1 ?_
  refine callsIn_of_wp_marks Try.func60 rfl trivial ?_ rfl
  simp only [Try.ntmps60,List.size_toArray,List.length_cons,List.length_nil,Nat.reduceAdd,Nat.reduceSub,Array.replicate_succ,Array.replicate_zero,List.push_toArray,List.append_toArray,List.nil_append,List.cons_append]
  cases hlf:leafT t with
  | true =>
   have HLF:=Ak hlf
   have HE:=Ak (reb_leaf (RF:=RF) (b:=b) hlf)
   clear hlf
   gi_wp2
   refine ⟨trivial,?_⟩
   gi_at_call 75
   refine (callsIn_wide.2 (leaf_calls t p _)).mono ?_
   rintro e w1 ⟨rfl,hb1⟩
   rw [HLF.out]
   have hX0:=(hb1.block w.heap.size (by rw [HZ0.out];omega)).trans HX0.out
   have hX1:=(hb1.block _ (by rw [HZ0.out];omega)).trans HX1.out
   have hX2:=(hb1.block _ (by rw [HZ0.out];omega)).trans HX2.out
   have hX3:=(hb1.block _ (by rw [HZ0.out];omega)).trans HX3.out
   have HX31:=Ak hX3
   have HB1:=Ak (show Below w.heap.size w w1 from Below.trans HB0.out (hb1.mono HB0.out.size))
   obtain ⟨c0,c1,c2,c3,c4,c5,c6,c7⟩:=row8 hX0
   have d1:w1.cell? ⟨w.heap.size+1,0,none⟩=some (.int .i64 b):=by (rw [cell_of_row _ _ _ _ _ _ hX1];rfl)
   have d2:w1.cell? ⟨w.heap.size+1+1,0,none⟩=some (vrLi gf gb):=by (rw [cell_of_row _ _ _ _ _ _ hX2];rfl)
   clear hb1 hX0 hX1 hX2 hX3
   gi_wp2
   refine ⟨trivial,?_⟩
   gi_at_call 97
   refine (callsIn_wide.2 (HVS.out t p b w1 HLF.out hb0 hb2 (Nat.le_trans hg1 HB1.out.size) (TmS.stay HIN.out HSS.out (HB1.out.mono hg)) (HRP.out _ _ HR.out (fun k hk=>HB1.out.block k (by omega))))).mono ?_
   rintro e w3 ⟨q9,rfl,ht9,hb3⟩
   have hX3:=(hb3.block _ (blk_lt HX31.out)).trans HX31.out
   have HX33:=Ak hX3
   have HT9:=Ak ht9
   have HB3:=Ak hb3
   obtain ⟨r0,r1,r2,r3,r4,r5,r6,r7,f0,f1,f2,f3,f4,f5,f6,f7⟩:=row8c hX3
   obtain ⟨y,hy⟩:∃ y,y=RF t b:=⟨_,rfl⟩
   rw [← hy] at HT9 HE ⊢
   clear hX3 ht9 hb3 hy c0 c1 c2 c3 c4 c5 c6 c7
   unfold tmV
   gi_wp2
   refine ⟨_,results_c rfl _ _ (w.heap.size+1+1+1) 28 #[.int .i64 y.kind,.int .i64 y.num,.string y.name,.int .i64 y.lv.kind,.int .i64 y.lv.num,.slice q9.A y.lv.kids.length q9.c,.slice q9.B y.ls.length q9.d,.slice q9.K y.kids.length q9.e] (0,0) _ rfl (set8 HX33.out) Try.underlying28 rfl (by kernel_rfl),?_⟩
   have hch:=chg_set8 w3 (w.heap.size+1+1+1) (.int .i64 y.kind) (.int .i64 y.num) (.string y.name) (.int .i64 y.lv.kind) (.int .i64 y.lv.num) (.slice q9.A y.lv.kids.length q9.c) (.slice q9.B y.ls.length q9.d) (.slice q9.K y.kids.length q9.e)
   rw [HE.out]
   have hz1:=blk_lt HX31.out
   exact ⟨q9,rfl,(HT9.out.same fun k hk hz=>hch.block k hz (by rcases hk with hk | hk;have:=HSS.out _ hk;omega;omega)).mono fun k hk _=>hk.imp id fun h=>by omega,Chg.trans_below (below_then HB1.out HB1.out.size HB3.out) hch (fun _ e=>by omega) (Nat.le_trans HB1.out.size HB3.out.size)⟩
  | false =>
   have HLF:=Ak hlf
   have HE:=Ak (reb_node (RF:=RF) (b:=b) hlf)
   clear hlf
   gi_wp2
   refine ⟨trivial,?_⟩
   gi_at_call 75
   refine (callsIn_wide.2 (leaf_calls t p _)).mono ?_
   rintro e w1 ⟨rfl,hb1⟩
   rw [HLF.out]
   have hX0:=(hb1.block w.heap.size (by rw [HZ0.out];omega)).trans HX0.out
   have hX1:=(hb1.block _ (by rw [HZ0.out];omega)).trans HX1.out
   have hX2:=(hb1.block _ (by rw [HZ0.out];omega)).trans HX2.out
   have hX3:=(hb1.block _ (by rw [HZ0.out];omega)).trans HX3.out
   have hz1:w.heap.size+4≤w1.heap.size:=by have:=hb1.size;rw [HZ0.out] at this;exact this
   have HX01:=Ak hX0
   have HX11:=Ak hX1
   have HX21:=Ak hX2
   have HX31:=Ak hX3
   have HB1:=Ak (show Below w.heap.size w w1 from Below.trans HB0.out (hb1.mono HB0.out.size))
   obtain ⟨c0,c1,c2,c3,c4,c5,c6,c7⟩:=row8 hX0
   have hlt0:w.heap.size<w1.heap.size:=by omega
   clear hb1 hX0 hX1 hX2 hX3
   gi_wp2
   refine ⟨trivial,?_⟩
   gi_at_call 96
   obtain ⟨W1,hW1⟩:∃ W1,W1=w1.alloc (outK t.kind (.slice none 0 0)):=⟨_,rfl⟩
   rw [← hW1]
   have HO1:=Ak (show W1.heap[w1.heap.size]?=some (outK t.kind (.slice none 0 0)) by rw [hW1];exact blk_new _ _)
   have HBW1:=Ak (show Below w1.heap.size w1 W1 by rw [hW1];exact below_alloc (Below.refl _ _) _)
   have HZW1:=Ak (show W1.heap.size=w1.heap.size+1 by rw [hW1];simp)
   refine (callsIn_wide.2 (tkids_calls p t W1)).mono ?_
   rintro e w2 ⟨rfl,hw2⟩
   have HZX2:=Ak (show w2.heap[W1.heap.size]?=some (tmO p t) by rw [hw2];exact blk_new _ _)
   have HB2:=Ak (show Below W1.heap.size W1 w2 by rw [hw2];exact below_alloc (Below.refl _ _) _)
   have HZW2:=Ak (show w2.heap.size=W1.heap.size+1 by rw [hw2];simp)
   clear hw2 hW1 c0 c1 c2 c3 c4 c5 c6 c7
   have HBB:=Ak (show Below w1.heap.size w1 w2 from Below.trans HBW1.out (HB2.out.mono (by have:=HZW1.out;omega)))
   have HO2:=Ak (show w2.heap[w1.heap.size]?=some (outK t.kind (.slice none 0 0)) from (HB2.out.block _ (by have:=HZW1.out;omega)).trans HO1.out)
   gi_wp2
   obtain ⟨q,hq⟩:=(TmS.stay HIN.out HSS.out (Below.trans (HB1.out.mono hg) (HBB.out.mono (by omega)))).kid
   have HQ:=Ak hq
   have hlen:=HIN.out.len
   have hzz:=blk_lt HZX2.out
   have hzs:w1.heap.size<W1.heap.size:=by have:=HZW1.out;omega
   have hzs2:W1.heap.size<w2.heap.size:=hzz
   clear hq
   refine wpIn_rangeFunc_ownH (F:=Fence.wide) rfl (by decide) (gf:=117) (lb:=#[.pointer (some ⟨W1.heap.size,0,none⟩)]) rfl trivial (enters_of Try.func117 (by kernel_rfl) rfl)
    (kids_stops (5 - 1) (by decide) p t q W1.heap.size w2.heap.size (fun k=>k=w1.heap.size) S w2 HZX2.out hzz (Nat.le_refl _) (fun e=>by omega) (fun k hk=>by have hk:=HSS.out _ hk;exact ⟨by omega,fun h=>by omega⟩) (by omega) (fun i x hx=>(HQ.out i x hx).1))
    kpG_trans (kpG_put (Nat.le_refl _)) (Below.refl _ _) (fun _=>rfl)
    (fun pre W=>∃ V,W.heap[w1.heap.size]?=some (outK t.kind V)∧KidsT W S w2.heap.size V (rebKids RF t b pre)∧Chg (fun k=>k=w1.heap.size) w2 W)
    (fun _ _ _=>False)
    (fun pre X Y row hs hg hr=>by obtain ⟨V,h1,h2,h3⟩:=hs;exact ⟨V,(hg.block _ (blk_lt h1) (fun e=>by have:=(hr _ e.symm).1;omega)).trans h1,h2.grown hg (fun r e=>row_no (hr r e).2),chg_grown h3 hg (fun r e=>(hr r e).1)⟩)
    (fun c pre X Y row hs hg hr=>hs)
    ⟨.slice none 0 0,HO2.out,KidsT.nil _ _ _,Chg.refl _ _⟩
    (fun x a' W=>∃ Bx,w2.heap.size≤Bx∧W.heap[Bx]?=some (tmO (q x) (kidF t x))∧(∀ V,W.heap[w1.heap.size]?=some (outK t.kind V)→V.ownBlock≠some Bx)∧a' = { tmps:=#[tmV p t,.int .i64 b,vrLi gf gb,.pointer (some ⟨w.heap.size,0,none⟩),.pointer (some ⟨w.heap.size+1,0,none⟩),.pointer (some ⟨w.heap.size+1+1,0,none⟩),.pointer (some ⟨w.heap.size+1+1+1,0,none⟩),.pointer (some ⟨w1.heap.size,0,none⟩),.int .i64 (moreZ t x),.pointer (some ⟨Bx,0,none⟩),tmV p t,.bool false,undef,undef,undef,undef,.pointer (some ⟨w.heap.size,0,none⟩),.int .i64 t.kind,.agg #[.int .i64 t.kind,.int .i64 0,.string ⟨#[]⟩,.int .i64 0,.int .i64 0,.slice none 0 0,.slice none 0 0,.slice none 0 0],tmV p t,.func (.func 117) #[] #[.pointer (some ⟨W1.heap.size,0,none⟩)],.int .i64 (moreZ t x),tmV (q x) (kidF t x),undef,undef,undef,undef,undef,undef,undef,undef,undef,undef,undef,undef,undef,undef],defers:=[] })
    (fun x a' _ X Y row hs hg hr=>by
     obtain ⟨Bx,h1,h2,h3,h4⟩:=hs
     refine ⟨Bx,h1,(hg.block _ (blk_lt h2) (fun e=>by obtain ⟨o,ho,hc⟩:=(hr _ e.symm).2;rw [h2] at ho;cases ho;cases hc)).trans h2,fun V hV=>?_,h4⟩
     by_cases hz:w1.heap.size<X.heap.size
     ·exact h3 V ((hg.block _ hz (fun e=>by have:=(hr _ e.symm).1;omega)).symm.trans hV)
     ·exact absurd (blk_lt h2) (by omega))
    ?assign ?body ?done ?stop
   case assign =>
    rintro l pre x W K ⟨V,hVO,hKT,hCW⟩ hK
    dsimp only [encK,tmV]
    have hb1:Below W.heap.size W (W.alloc (tmO (q x) (kidF t x))):=below_alloc (Below.refl _ _) _
    have HKK:=Ak (hK { tmps:=#[tmV p t,.int .i64 b,vrLi gf gb,.pointer (some ⟨w.heap.size,0,none⟩),.pointer (some ⟨w.heap.size+1,0,none⟩),.pointer (some ⟨w.heap.size+1+1,0,none⟩),.pointer (some ⟨w.heap.size+1+1+1,0,none⟩),.pointer (some ⟨w1.heap.size,0,none⟩),.int .i64 (moreZ t x),.pointer (some ⟨W.heap.size,0,none⟩),tmV p t,.bool false,undef,undef,undef,undef,.pointer (some ⟨w.heap.size,0,none⟩),.int .i64 t.kind,.agg #[.int .i64 t.kind,.int .i64 0,.string ⟨#[]⟩,.int .i64 0,.int .i64 0,.slice none 0 0,.slice none 0 0,.slice none 0 0],tmV p t,.func (.func 117) #[] #[.pointer (some ⟨W1.heap.size,0,none⟩)],.int .i64 (moreZ t x),tmV (q x) (kidF t x),undef,undef,undef,undef,undef,undef,undef,undef,undef,undef,undef,undef,undef,undef],defers:=[] } _ (KeepsFrom.of_chg (Chg.of_below (S:=fun _=>False) hb1) (fun k h=>h.elim)) ⟨hb1.size,fun k hk _=>hb1.block k (by have:=hCW.size;omega)⟩ ⟨V,blk_alloc hVO _,hKT.later hb1,chg_trans hCW (Chg.of_below hb1)⟩
     ⟨W.heap.size,hCW.size,blk_new _ _,fun V' hV'=>by
      have e1:=(blk_alloc hVO (tmO (q x) (kidF t x))).symm.trans hV'
      obtain rfl:V=V':=by injection e1 with e1;injection e1 with e1;injection e1 with e1;simpa using e1
      obtain ⟨cells,qq,ho,_⟩:=hKT
      intro e
      have:=own_lt ho _ e
      omega,rfl⟩)
    clear hK hKT hCW hVO hb1
    gi_wp2
    exact HKK.out
   case body =>
    rintro l pre x a' W hl ⟨r,hr⟩ ⟨V,hVO,hKT,hCW⟩ ⟨Bx,hBx,bX,hVB,rfl⟩ hlt
    have hVB2:=hVB V hVO
    obtain ⟨cells,qq,hown,hkids⟩:=hKT
    obtain ⟨A9,c9,rfl⟩:=own_slice hown
    have hszW:=hCW.size
    have hn3:=nK_le3 t
    have HPL:=Ak (rebKids_len RF t b pre)
    have hmz:=moreZ_in t x
    have HDK:=Ak (depth_kid t x)
    have hbm:0≤b+moreZ t x∧b+moreZ t x≤2000000:=by omega
    have st:∀ j,j<w1.heap.size→W.heap[j]?=w1.heap[j]?:=fun j h1=>(hCW.block j (by omega) (by omega)).trans (HBB.out.block j h1)
    have hX1:=(st _ (by omega)).trans HX11.out
    have hX2:=(st _ (by omega)).trans HX21.out
    have HIH:=Ak (show ∀ w',W.heap.size≤w'.heap.size→(∀ k,k<g1→w'.heap[k]?=W.heap[k]?)→Calls Try.prog 60 #[tmV (q x) (kidF t x),.int .i64 (b+moreZ t x),vrLi gf gb] w' (TmGot w' S (rebP RF (kidF t x) (b+moreZ t x))) from fun w' hz hs=>by
     have hs2:∀ k,k<g1→w'.heap[k]?=w.heap[k]?:=fun k hk=>(hs k hk).trans ((st k (by omega)).trans (HB1.out.block k (by omega)))
     have hs3:∀ k,k<g1→w'.heap[k]?=w2.heap[k]?:=fun k hk=>(hs2 k hk).trans ((HBB.out.block k (by omega)).trans (HB1.out.block k (by omega))).symm
     exact IH.out (kidF t x) (by have:=kidF_lt t x;have:=HNN.out;omega) (q x) (b+moreZ t x) w' (by omega) (by have:=HBD.out;have:=HDK.out;omega) (by omega) ((HQ.out x _ (kidF_get t x)).2.same fun k hk _=>hs3 k (Nat.lt_of_lt_of_le (HSS.out _ hk) h01)) (HRP.out _ _ HR.out hs2))
    have HKID:=Ak hkids
    have HOWN:=Ak hown
    have HBX:=Ak bX
    have HVO:=Ak hVO
    have HCW:=Ak hCW
    obtain ⟨L,hL⟩:∃ L,(rebKids RF t b pre).length=L:=⟨_,rfl⟩
    have hL3:L≤3:=by rw [← hL,HPL.out];omega
    have HLE:=Ak hL
    clear st hl hVB hkids hown bX hVO hCW
    rw [hL] at hVB2 HOWN HVO HKID
    clear hL
    refine wpIn_block ?_
    refine rb_region ?hq W S w1.heap.size Bx (w.heap.size+1) (w.heap.size+1+1) w2.heap.size g0 g1 L c9 A9 cells t.kind b (moreZ t x) (q x) (kidF t x) (rebP RF (kidF t x) (b+moreZ t x)) (vrLi gf gb) HSS.out HVO.out HBX.out hX1 hX2 HOWN.out (by omega) (by omega) (by omega) hVB2 (by omega) (by omega) (by omega) (by omega) (by omega) (by omega) HIH.out ?_
    case hq =>
     rintro ⟨a1,wx,h⟩
     exact h
    intro w' u30 u32 u33 u34 O9 O11 v12 O12 v14 O14 hch _ _ h11 _ h12 hO12 h14 _ hap
    have hfin:=reb_round HLE.out HKID.out HOWN.out hch h12 hO12 (fun h=>hap _ h h14.2) (by omega) (by omega) (by omega) HSS.out
    have hsn:=rebKids_snoc RF t b pre x
    have hz':=hch.size
    have hC2:Chg (fun k=>k=w1.heap.size) w2 w':=⟨hch.os.trans HCW.out.os,hch.tape.trans HCW.out.tape,hch.output.trans HCW.out.output,Nat.le_trans HCW.out.size hch.size,fun k hk hn=>(hch.block k (by omega) (fun e=>e.elim (fun e=>by have:=own_base HOWN.out k e;omega) hn)).trans (HCW.out.block k hk hn)⟩
    exact ⟨⟨hch.size,fun k o hBk ho hc=>(hch.block k (blk_lt ho) (fun e=>e.elim (fun e=>own_cells HOWN.out e ho hc) (fun e=>by have e:k=w1.heap.size:=e;omega))).trans ho⟩,⟨hch.size,fun k hk hg=>hch.block k (by omega) (fun e=>e.elim (fun e=>by have:=own_base HOWN.out k e;omega) hg)⟩,u33,h14.1,by rw [hsn];exact hfin,hC2⟩
   case stop =>
    rintro D c pre WW hD hSp hf hKW
    exact hf.elim
   case done =>
    rintro D ys W hD rfl ⟨V,hVO,hKT,hCW⟩ hK
    obtain ⟨K9,e9,rfl,hterm⟩:=hKT.term
    have HTM:=Ak (hterm t.kind 0 noName ⟨by decide,by decide,by simp⟩)
    have hszW:=hCW.size
    have hres:=(hCW.block (w.heap.size+1+1+1) (by omega) (by omega)).trans ((HBB.out.block _ (by omega)).trans HX31.out)
    have HRES:=Ak hres
    have HKD:=Ak hK
    have HCW:=Ak hCW
    obtain ⟨o0,o1,o2,o3,o4,o5,o6,o7,-,-,-,-,-,-,-,-⟩:=row8c hVO
    obtain ⟨r0,r1,r2,r3,r4,r5,r6,r7,f0,f1,f2,f3,f4,f5,f6,f7⟩:=row8c hres
    have hz5:w1.heap.size<W.heap.size:=by omega
    have hne5:w1.heap.size≠w.heap.size+1+1+1:=by omega
    obtain ⟨m9,hm9⟩:∃ m,(rebKids RF t b (List.finRange (nK t))).length=m:=⟨_,rfl⟩
    have HM9:=Ak hm9
    rw [hm9] at o7
    clear hVO hKT hCW hK hterm hres hm9
    gi_wp2
    have hch:=chg_set8 W (w.heap.size+1+1+1) (.int .i64 t.kind) (.int .i64 0) (.string ⟨#[]⟩) (.int .i64 0) (.int .i64 0) (.slice none 0 0) (.slice none 0 0) (.slice K9 m9 e9)
    have hx5:=set8 (a0:=.int .i64 t.kind) (a1:=.int .i64 0) (a2:=.string ⟨#[]⟩) (a3:=.int .i64 0) (a4:=.int .i64 0) (a5:=.slice none 0 0) (a6:=.slice none 0 0) (a7:=.slice K9 m9 e9) HRES.out
    obtain ⟨WW,hWW⟩:∃ WW,WW=((((((((W.setCell ⟨w.heap.size+1+1+1,0,none⟩ (.int .i64 t.kind)).setCell ⟨w.heap.size+1+1+1,1,none⟩ (.int .i64 0)).setCell ⟨w.heap.size+1+1+1,2,none⟩ (.string ⟨#[]⟩)).setCell ⟨w.heap.size+1+1+1,3,none⟩ (.int .i64 0)).setCell ⟨w.heap.size+1+1+1,4,none⟩ (.int .i64 0)).setCell ⟨w.heap.size+1+1+1,5,none⟩ (.slice none 0 0)).setCell ⟨w.heap.size+1+1+1,6,none⟩ (.slice none 0 0)).setCell ⟨w.heap.size+1+1+1,7,none⟩ (.slice K9 m9 e9)):=⟨_,rfl⟩
    rw [← hWW] at hch hx5 ⊢
    clear hWW
    have hszV:=hch.size
    have hKW:WW.heap[D]?=some (.deferred (some [])):=(hch.block D (blk_lt HKD.out) (by omega)).trans HKD.out
    have hp:=chg_put WW D (.deferred none)
    have hx6:(WW.putObj D (.deferred none)).heap[w.heap.size+1+1+1]?=some (.cells #[.int .i64 t.kind,.int .i64 0,.string ⟨#[]⟩,.int .i64 0,.int .i64 0,.slice none 0 0,.slice none 0 0,.slice K9 m9 e9] 28 (0,0)):=(hp.block _ (blk_lt hx5) (by omega)).trans hx5
    refine ⟨by simp,.inl ⟨_,_,rfl,run_takeDeferred hKW,?_⟩⟩
    refine ⟨_,results_c rfl _ _ (w.heap.size+1+1+1) 28 #[.int .i64 t.kind,.int .i64 0,.string ⟨#[]⟩,.int .i64 0,.int .i64 0,.slice none 0 0,.slice none 0 0,.slice K9 m9 e9] (0,0) _ rfl hx6 Try.underlying28 rfl (by kernel_rfl),?_⟩
    rw [HE.out]
    have hnD:∀ k,CellsB W k→k≠D:=by
     rintro k ⟨cs,tt,fr,hk⟩ e
     rw [e,HKD.out] at hk
     cases hk
    refine ⟨⟨none,0,none,0,K9,e9⟩,by unfold tmV;rw [← HM9.out];rfl,((HTM.out.cells).same fun k hk hz=>(hp.block k (by omega) (hnD k hk.2)).trans (hch.block k hz (by rcases hk.1 with h | h;have:=HSS.out _ h;omega;omega))).mono fun k hk _=>hk.1.imp id fun h=>by omega,?_⟩
    refine Chg.trans_below (S:=fun k=>k=w1.heap.size∨k=w.heap.size+1+1+1∨k=D) (Below.trans HB1.out (HBB.out.mono HB1.out.size)) ?_ (fun k h=>by omega) (by have:=HB1.out.size;omega)
    exact chg_trans (HCW.out.mono fun k h=>.inl h) (chg_trans (hch.mono fun k h=>.inr (.inl h)) (hp.mono fun k h=>.inr (.inr h)))
end Go.Proofs.Ytdboloabpjmgaaa

namespace Go.Proofs.Ytdboloabpjmgaaa
open Go.RowKit Go.Shelf Go.Proofs.YtdboloabpjmgaaaW.PrintWords Go.RegionInvYtdboloabpjmgaaa Go.RegionEYtdboloabpjmgaaa
attribute [local go_sem] Oper.semAt_some

abbrev vrOw  : Value:=.func (.func 94) #[] #[]
abbrev rbWOw (w:World) (p:Pl) (t:Tm) (b:Int)  : World:=
 (((w.alloc (tmO p t)).alloc (.cells #[.int .i64 b] 3 (0,0))).alloc (.cells #[vrOw ] 68 (0,0))).alloc (.cells #[.int .i64 0,.int .i64 0,.string ⟨#[]⟩,.int .i64 0,.int .i64 0,.slice none 0 0,.slice none 0 0,.slice none 0 0] 28 (0,0))
set_option maxRecDepth 100000 in
set_option maxHeartbeats 16000000 in
theorem reb_Ow (RF:Tm→Int→Tm) (Rep:World→Prop) (S:Nat→Prop) (g0 g1:Nat) (h01:g0≤g1) (hS:∀ k,S k→k<g0)
  (hRep:∀ (W W':World),Rep W→(∀ k,k<g1→W'.heap[k]?=W.heap[k]?)→Rep W')
  (hvis:∀ (t:Tm) (p:Pl) (b:Int) (w:World),leafT t=true→0≤b→b≤1000000→g1≤w.heap.size→TmS w S p t→Rep w→Calls Try.prog 94 #[tmV p t,.int .i64 b] w (TmGot w S (RF t b)))
  (N:Nat):∀ (t:Tm),SizeOf.sizeOf t<N→∀ (p:Pl) (b:Int) (w:World),0≤b→b+depthT t≤1000000→g1≤w.heap.size→TmS w S p t→Rep w →
  Calls Try.prog 60 #[tmV p t,.int .i64 b,vrOw ] w (TmGot w S (rebP RF t b)):=by
 induction N with
 | zero=>intro t h;omega
 | succ N ih =>
  intro t hN p b w hb0 hb1 hg1 hin hR
  have hg:g0≤w.heap.size:=Nat.le_trans h01 hg1
  have IH:=Ak ih
  have HSS:=Ak hS
  have HRP:=Ak hRep
  have HVS:=Ak hvis
  have HIN:=Ak hin
  have HR:=Ak hR
  have HNN:=Ak hN
  have HBD:=Ak hb1
  have hdp:1≤depthT t:=by rw [depthT];omega
  have hb2:b≤1000000:=by omega
  have hz0:(rbWOw w p t b ).heap.size=w.heap.size+4:=by simp
  have hb0w:Below w.heap.size w (rbWOw w p t b ):=below_alloc (below_alloc (below_alloc (below_alloc (Below.refl _ _) _) _) _) _
  have HX0:=Ak (show (rbWOw w p t b ).heap[w.heap.size]?=some (tmO p t) from blk_alloc (blk_alloc (blk_alloc (blk_new _ _) _) _) _)
  have HX1:=Ak (show (rbWOw w p t b ).heap[w.heap.size+1]?=some (.cells #[.int .i64 b] 3 (0,0)) by have:=blk_new (w.alloc (tmO p t)) (.cells #[.int .i64 b] 3 (0,0));simp only [World.size_alloc] at this;exact blk_alloc (blk_alloc this _) _)
  have HX2:=Ak (show (rbWOw w p t b ).heap[w.heap.size+1+1]?=some (.cells #[vrOw ] 68 (0,0)) by have:=blk_new ((w.alloc (tmO p t)).alloc (.cells #[.int .i64 b] 3 (0,0))) (.cells #[vrOw ] 68 (0,0));simp only [World.size_alloc] at this;exact blk_alloc this _)
  have HX3:=Ak (show (rbWOw w p t b ).heap[w.heap.size+1+1+1]?=some (outK 0 (.slice none 0 0)) by have:=blk_new (((w.alloc (tmO p t)).alloc (.cells #[.int .i64 b] 3 (0,0))).alloc (.cells #[vrOw ] 68 (0,0))) (outK 0 (.slice none 0 0));simp only [World.size_alloc] at this;exact this)
  have HZ0:=Ak hz0
  have HB0:=Ak hb0w
  clear ih hRep hvis hin hR hN hz0 hb0w hb1
  unfold tmV vrOw
  refine (callsIn_wide (n:=5)).1 ?_
  refine callsIn_of_wp_marks Try.func60 rfl trivial ?_ rfl
  simp only [Try.ntmps60,List.size_toArray,List.length_cons,List.length_nil,Nat.reduceAdd,Nat.reduceSub,Array.replicate_succ,Array.replicate_zero,List.push_toArray,List.append_toArray,List.nil_append,List.cons_append]
  cases hlf:leafT t with
  | true =>
   have HLF:=Ak hlf
   have HE:=Ak (reb_leaf (RF:=RF) (b:=b) hlf)
   clear hlf
   gi_wp2
   refine ⟨trivial,?_⟩
   gi_at_call 75
   refine (callsIn_wide.2 (leaf_calls t p _)).mono ?_
   rintro e w1 ⟨rfl,hb1⟩
   rw [HLF.out]
   have hX0:=(hb1.block w.heap.size (by rw [HZ0.out];omega)).trans HX0.out
   have hX1:=(hb1.block _ (by rw [HZ0.out];omega)).trans HX1.out
   have hX2:=(hb1.block _ (by rw [HZ0.out];omega)).trans HX2.out
   have hX3:=(hb1.block _ (by rw [HZ0.out];omega)).trans HX3.out
   have HX31:=Ak hX3
   have HB1:=Ak (show Below w.heap.size w w1 from Below.trans HB0.out (hb1.mono HB0.out.size))
   obtain ⟨c0,c1,c2,c3,c4,c5,c6,c7⟩:=row8 hX0
   have d1:w1.cell? ⟨w.heap.size+1,0,none⟩=some (.int .i64 b):=by (rw [cell_of_row _ _ _ _ _ _ hX1];rfl)
   have d2:w1.cell? ⟨w.heap.size+1+1,0,none⟩=some (vrOw ):=by (rw [cell_of_row _ _ _ _ _ _ hX2];rfl)
   clear hb1 hX0 hX1 hX2 hX3
   gi_wp2
   refine ⟨trivial,?_⟩
   gi_at_call 94
   refine (callsIn_wide.2 (HVS.out t p b w1 HLF.out hb0 hb2 (Nat.le_trans hg1 HB1.out.size) (TmS.stay HIN.out HSS.out (HB1.out.mono hg)) (HRP.out _ _ HR.out (fun k hk=>HB1.out.block k (by omega))))).mono ?_
   rintro e w3 ⟨q9,rfl,ht9,hb3⟩
   have hX3:=(hb3.block _ (blk_lt HX31.out)).trans HX31.out
   have HX33:=Ak hX3
   have HT9:=Ak ht9
   have HB3:=Ak hb3
   obtain ⟨r0,r1,r2,r3,r4,r5,r6,r7,f0,f1,f2,f3,f4,f5,f6,f7⟩:=row8c hX3
   obtain ⟨y,hy⟩:∃ y,y=RF t b:=⟨_,rfl⟩
   rw [← hy] at HT9 HE ⊢
   clear hX3 ht9 hb3 hy c0 c1 c2 c3 c4 c5 c6 c7
   unfold tmV
   gi_wp2
   refine ⟨_,results_c rfl _ _ (w.heap.size+1+1+1) 28 #[.int .i64 y.kind,.int .i64 y.num,.string y.name,.int .i64 y.lv.kind,.int .i64 y.lv.num,.slice q9.A y.lv.kids.length q9.c,.slice q9.B y.ls.length q9.d,.slice q9.K y.kids.length q9.e] (0,0) _ rfl (set8 HX33.out) Try.underlying28 rfl (by kernel_rfl),?_⟩
   have hch:=chg_set8 w3 (w.heap.size+1+1+1) (.int .i64 y.kind) (.int .i64 y.num) (.string y.name) (.int .i64 y.lv.kind) (.int .i64 y.lv.num) (.slice q9.A y.lv.kids.length q9.c) (.slice q9.B y.ls.length q9.d) (.slice q9.K y.kids.length q9.e)
   rw [HE.out]
   have hz1:=blk_lt HX31.out
   exact ⟨q9,rfl,(HT9.out.same fun k hk hz=>hch.block k hz (by rcases hk with hk | hk;have:=HSS.out _ hk;omega;omega)).mono fun k hk _=>hk.imp id fun h=>by omega,Chg.trans_below (below_then HB1.out HB1.out.size HB3.out) hch (fun _ e=>by omega) (Nat.le_trans HB1.out.size HB3.out.size)⟩
  | false =>
   have HLF:=Ak hlf
   have HE:=Ak (reb_node (RF:=RF) (b:=b) hlf)
   clear hlf
   gi_wp2
   refine ⟨trivial,?_⟩
   gi_at_call 75
   refine (callsIn_wide.2 (leaf_calls t p _)).mono ?_
   rintro e w1 ⟨rfl,hb1⟩
   rw [HLF.out]
   have hX0:=(hb1.block w.heap.size (by rw [HZ0.out];omega)).trans HX0.out
   have hX1:=(hb1.block _ (by rw [HZ0.out];omega)).trans HX1.out
   have hX2:=(hb1.block _ (by rw [HZ0.out];omega)).trans HX2.out
   have hX3:=(hb1.block _ (by rw [HZ0.out];omega)).trans HX3.out
   have hz1:w.heap.size+4≤w1.heap.size:=by have:=hb1.size;rw [HZ0.out] at this;exact this
   have HX01:=Ak hX0
   have HX11:=Ak hX1
   have HX21:=Ak hX2
   have HX31:=Ak hX3
   have HB1:=Ak (show Below w.heap.size w w1 from Below.trans HB0.out (hb1.mono HB0.out.size))
   obtain ⟨c0,c1,c2,c3,c4,c5,c6,c7⟩:=row8 hX0
   have hlt0:w.heap.size<w1.heap.size:=by omega
   clear hb1 hX0 hX1 hX2 hX3
   gi_wp2
   refine ⟨trivial,?_⟩
   gi_at_call 96
   obtain ⟨W1,hW1⟩:∃ W1,W1=w1.alloc (outK t.kind (.slice none 0 0)):=⟨_,rfl⟩
   rw [← hW1]
   have HO1:=Ak (show W1.heap[w1.heap.size]?=some (outK t.kind (.slice none 0 0)) by rw [hW1];exact blk_new _ _)
   have HBW1:=Ak (show Below w1.heap.size w1 W1 by rw [hW1];exact below_alloc (Below.refl _ _) _)
   have HZW1:=Ak (show W1.heap.size=w1.heap.size+1 by rw [hW1];simp)
   refine (callsIn_wide.2 (tkids_calls p t W1)).mono ?_
   rintro e w2 ⟨rfl,hw2⟩
   have HZX2:=Ak (show w2.heap[W1.heap.size]?=some (tmO p t) by rw [hw2];exact blk_new _ _)
   have HB2:=Ak (show Below W1.heap.size W1 w2 by rw [hw2];exact below_alloc (Below.refl _ _) _)
   have HZW2:=Ak (show w2.heap.size=W1.heap.size+1 by rw [hw2];simp)
   clear hw2 hW1 c0 c1 c2 c3 c4 c5 c6 c7
   have HBB:=Ak (show Below w1.heap.size w1 w2 from Below.trans HBW1.out (HB2.out.mono (by have:=HZW1.out;omega)))
   have HO2:=Ak (show w2.heap[w1.heap.size]?=some (outK t.kind (.slice none 0 0)) from (HB2.out.block _ (by have:=HZW1.out;omega)).trans HO1.out)
   gi_wp2
   obtain ⟨q,hq⟩:=(TmS.stay HIN.out HSS.out (Below.trans (HB1.out.mono hg) (HBB.out.mono (by omega)))).kid
   have HQ:=Ak hq
   have hlen:=HIN.out.len
   have hzz:=blk_lt HZX2.out
   have hzs:w1.heap.size<W1.heap.size:=by have:=HZW1.out;omega
   have hzs2:W1.heap.size<w2.heap.size:=hzz
   clear hq
   refine wpIn_rangeFunc_ownH (F:=Fence.wide) rfl (by decide) (gf:=117) (lb:=#[.pointer (some ⟨W1.heap.size,0,none⟩)]) rfl trivial (enters_of Try.func117 (by kernel_rfl) rfl)
    (kids_stops (5 - 1) (by decide) p t q W1.heap.size w2.heap.size (fun k=>k=w1.heap.size) S w2 HZX2.out hzz (Nat.le_refl _) (fun e=>by omega) (fun k hk=>by have hk:=HSS.out _ hk;exact ⟨by omega,fun h=>by omega⟩) (by omega) (fun i x hx=>(HQ.out i x hx).1))
    kpG_trans (kpG_put (Nat.le_refl _)) (Below.refl _ _) (fun _=>rfl)
    (fun pre W=>∃ V,W.heap[w1.heap.size]?=some (outK t.kind V)∧KidsT W S w2.heap.size V (rebKids RF t b pre)∧Chg (fun k=>k=w1.heap.size) w2 W)
    (fun _ _ _=>False)
    (fun pre X Y row hs hg hr=>by obtain ⟨V,h1,h2,h3⟩:=hs;exact ⟨V,(hg.block _ (blk_lt h1) (fun e=>by have:=(hr _ e.symm).1;omega)).trans h1,h2.grown hg (fun r e=>row_no (hr r e).2),chg_grown h3 hg (fun r e=>(hr r e).1)⟩)
    (fun c pre X Y row hs hg hr=>hs)
    ⟨.slice none 0 0,HO2.out,KidsT.nil _ _ _,Chg.refl _ _⟩
    (fun x a' W=>∃ Bx,w2.heap.size≤Bx∧W.heap[Bx]?=some (tmO (q x) (kidF t x))∧(∀ V,W.heap[w1.heap.size]?=some (outK t.kind V)→V.ownBlock≠some Bx)∧a' = { tmps:=#[tmV p t,.int .i64 b,vrOw ,.pointer (some ⟨w.heap.size,0,none⟩),.pointer (some ⟨w.heap.size+1,0,none⟩),.pointer (some ⟨w.heap.size+1+1,0,none⟩),.pointer (some ⟨w.heap.size+1+1+1,0,none⟩),.pointer (some ⟨w1.heap.size,0,none⟩),.int .i64 (moreZ t x),.pointer (some ⟨Bx,0,none⟩),tmV p t,.bool false,undef,undef,undef,undef,.pointer (some ⟨w.heap.size,0,none⟩),.int .i64 t.kind,.agg #[.int .i64 t.kind,.int .i64 0,.string ⟨#[]⟩,.int .i64 0,.int .i64 0,.slice none 0 0,.slice none 0 0,.slice none 0 0],tmV p t,.func (.func 117) #[] #[.pointer (some ⟨W1.heap.size,0,none⟩)],.int .i64 (moreZ t x),tmV (q x) (kidF t x),undef,undef,undef,undef,undef,undef,undef,undef,undef,undef,undef,undef,undef,undef],defers:=[] })
    (fun x a' _ X Y row hs hg hr=>by
     obtain ⟨Bx,h1,h2,h3,h4⟩:=hs
     refine ⟨Bx,h1,(hg.block _ (blk_lt h2) (fun e=>by obtain ⟨o,ho,hc⟩:=(hr _ e.symm).2;rw [h2] at ho;cases ho;cases hc)).trans h2,fun V hV=>?_,h4⟩
     by_cases hz:w1.heap.size<X.heap.size
     ·exact h3 V ((hg.block _ hz (fun e=>by have:=(hr _ e.symm).1;omega)).symm.trans hV)
     ·exact absurd (blk_lt h2) (by omega))
    ?assign ?body ?done ?stop
   case assign =>
    rintro l pre x W K ⟨V,hVO,hKT,hCW⟩ hK
    dsimp only [encK,tmV]
    have hb1:Below W.heap.size W (W.alloc (tmO (q x) (kidF t x))):=below_alloc (Below.refl _ _) _
    have HKK:=Ak (hK { tmps:=#[tmV p t,.int .i64 b,vrOw ,.pointer (some ⟨w.heap.size,0,none⟩),.pointer (some ⟨w.heap.size+1,0,none⟩),.pointer (some ⟨w.heap.size+1+1,0,none⟩),.pointer (some ⟨w.heap.size+1+1+1,0,none⟩),.pointer (some ⟨w1.heap.size,0,none⟩),.int .i64 (moreZ t x),.pointer (some ⟨W.heap.size,0,none⟩),tmV p t,.bool false,undef,undef,undef,undef,.pointer (some ⟨w.heap.size,0,none⟩),.int .i64 t.kind,.agg #[.int .i64 t.kind,.int .i64 0,.string ⟨#[]⟩,.int .i64 0,.int .i64 0,.slice none 0 0,.slice none 0 0,.slice none 0 0],tmV p t,.func (.func 117) #[] #[.pointer (some ⟨W1.heap.size,0,none⟩)],.int .i64 (moreZ t x),tmV (q x) (kidF t x),undef,undef,undef,undef,undef,undef,undef,undef,undef,undef,undef,undef,undef,undef],defers:=[] } _ (KeepsFrom.of_chg (Chg.of_below (S:=fun _=>False) hb1) (fun k h=>h.elim)) ⟨hb1.size,fun k hk _=>hb1.block k (by have:=hCW.size;omega)⟩ ⟨V,blk_alloc hVO _,hKT.later hb1,chg_trans hCW (Chg.of_below hb1)⟩
     ⟨W.heap.size,hCW.size,blk_new _ _,fun V' hV'=>by
      have e1:=(blk_alloc hVO (tmO (q x) (kidF t x))).symm.trans hV'
      obtain rfl:V=V':=by injection e1 with e1;injection e1 with e1;injection e1 with e1;simpa using e1
      obtain ⟨cells,qq,ho,_⟩:=hKT
      intro e
      have:=own_lt ho _ e
      omega,rfl⟩)
    clear hK hKT hCW hVO hb1
    gi_wp2
    exact HKK.out
   case body =>
    rintro l pre x a' W hl ⟨r,hr⟩ ⟨V,hVO,hKT,hCW⟩ ⟨Bx,hBx,bX,hVB,rfl⟩ hlt
    have hVB2:=hVB V hVO
    obtain ⟨cells,qq,hown,hkids⟩:=hKT
    obtain ⟨A9,c9,rfl⟩:=own_slice hown
    have hszW:=hCW.size
    have hn3:=nK_le3 t
    have HPL:=Ak (rebKids_len RF t b pre)
    have hmz:=moreZ_in t x
    have HDK:=Ak (depth_kid t x)
    have hbm:0≤b+moreZ t x∧b+moreZ t x≤2000000:=by omega
    have st:∀ j,j<w1.heap.size→W.heap[j]?=w1.heap[j]?:=fun j h1=>(hCW.block j (by omega) (by omega)).trans (HBB.out.block j h1)
    have hX1:=(st _ (by omega)).trans HX11.out
    have hX2:=(st _ (by omega)).trans HX21.out
    have HIH:=Ak (show ∀ w',W.heap.size≤w'.heap.size→(∀ k,k<g1→w'.heap[k]?=W.heap[k]?)→Calls Try.prog 60 #[tmV (q x) (kidF t x),.int .i64 (b+moreZ t x),vrOw ] w' (TmGot w' S (rebP RF (kidF t x) (b+moreZ t x))) from fun w' hz hs=>by
     have hs2:∀ k,k<g1→w'.heap[k]?=w.heap[k]?:=fun k hk=>(hs k hk).trans ((st k (by omega)).trans (HB1.out.block k (by omega)))
     have hs3:∀ k,k<g1→w'.heap[k]?=w2.heap[k]?:=fun k hk=>(hs2 k hk).trans ((HBB.out.block k (by omega)).trans (HB1.out.block k (by omega))).symm
     exact IH.out (kidF t x) (by have:=kidF_lt t x;have:=HNN.out;omega) (q x) (b+moreZ t x) w' (by omega) (by have:=HBD.out;have:=HDK.out;omega) (by omega) ((HQ.out x _ (kidF_get t x)).2.same fun k hk _=>hs3 k (Nat.lt_of_lt_of_le (HSS.out _ hk) h01)) (HRP.out _ _ HR.out hs2))
    have HKID:=Ak hkids
    have HOWN:=Ak hown
    have HBX:=Ak bX
    have HVO:=Ak hVO
    have HCW:=Ak hCW
    obtain ⟨L,hL⟩:∃ L,(rebKids RF t b pre).length=L:=⟨_,rfl⟩
    have hL3:L≤3:=by rw [← hL,HPL.out];omega
    have HLE:=Ak hL
    clear st hl hVB hkids hown bX hVO hCW
    rw [hL] at hVB2 HOWN HVO HKID
    clear hL
    refine wpIn_block ?_
    refine rb_region ?hq W S w1.heap.size Bx (w.heap.size+1) (w.heap.size+1+1) w2.heap.size g0 g1 L c9 A9 cells t.kind b (moreZ t x) (q x) (kidF t x) (rebP RF (kidF t x) (b+moreZ t x)) (vrOw ) HSS.out HVO.out HBX.out hX1 hX2 HOWN.out (by omega) (by omega) (by omega) hVB2 (by omega) (by omega) (by omega) (by omega) (by omega) (by omega) HIH.out ?_
    case hq =>
     rintro ⟨a1,wx,h⟩
     exact h
    intro w' u30 u32 u33 u34 O9 O11 v12 O12 v14 O14 hch _ _ h11 _ h12 hO12 h14 _ hap
    have hfin:=reb_round HLE.out HKID.out HOWN.out hch h12 hO12 (fun h=>hap _ h h14.2) (by omega) (by omega) (by omega) HSS.out
    have hsn:=rebKids_snoc RF t b pre x
    have hz':=hch.size
    have hC2:Chg (fun k=>k=w1.heap.size) w2 w':=⟨hch.os.trans HCW.out.os,hch.tape.trans HCW.out.tape,hch.output.trans HCW.out.output,Nat.le_trans HCW.out.size hch.size,fun k hk hn=>(hch.block k (by omega) (fun e=>e.elim (fun e=>by have:=own_base HOWN.out k e;omega) hn)).trans (HCW.out.block k hk hn)⟩
    exact ⟨⟨hch.size,fun k o hBk ho hc=>(hch.block k (blk_lt ho) (fun e=>e.elim (fun e=>own_cells HOWN.out e ho hc) (fun e=>by have e:k=w1.heap.size:=e;omega))).trans ho⟩,⟨hch.size,fun k hk hg=>hch.block k (by omega) (fun e=>e.elim (fun e=>by have:=own_base HOWN.out k e;omega) hg)⟩,u33,h14.1,by rw [hsn];exact hfin,hC2⟩
   case stop =>
    rintro D c pre WW hD hSp hf hKW
    exact hf.elim
   case done =>
    rintro D ys W hD rfl ⟨V,hVO,hKT,hCW⟩ hK
    obtain ⟨K9,e9,rfl,hterm⟩:=hKT.term
    have HTM:=Ak (hterm t.kind 0 noName ⟨by decide,by decide,by simp⟩)
    have hszW:=hCW.size
    have hres:=(hCW.block (w.heap.size+1+1+1) (by omega) (by omega)).trans ((HBB.out.block _ (by omega)).trans HX31.out)
    have HRES:=Ak hres
    have HKD:=Ak hK
    have HCW:=Ak hCW
    obtain ⟨o0,o1,o2,o3,o4,o5,o6,o7,-,-,-,-,-,-,-,-⟩:=row8c hVO
    obtain ⟨r0,r1,r2,r3,r4,r5,r6,r7,f0,f1,f2,f3,f4,f5,f6,f7⟩:=row8c hres
    have hz5:w1.heap.size<W.heap.size:=by omega
    have hne5:w1.heap.size≠w.heap.size+1+1+1:=by omega
    obtain ⟨m9,hm9⟩:∃ m,(rebKids RF t b (List.finRange (nK t))).length=m:=⟨_,rfl⟩
    have HM9:=Ak hm9
    rw [hm9] at o7
    clear hVO hKT hCW hK hterm hres hm9
    gi_wp2
    have hch:=chg_set8 W (w.heap.size+1+1+1) (.int .i64 t.kind) (.int .i64 0) (.string ⟨#[]⟩) (.int .i64 0) (.int .i64 0) (.slice none 0 0) (.slice none 0 0) (.slice K9 m9 e9)
    have hx5:=set8 (a0:=.int .i64 t.kind) (a1:=.int .i64 0) (a2:=.string ⟨#[]⟩) (a3:=.int .i64 0) (a4:=.int .i64 0) (a5:=.slice none 0 0) (a6:=.slice none 0 0) (a7:=.slice K9 m9 e9) HRES.out
    obtain ⟨WW,hWW⟩:∃ WW,WW=((((((((W.setCell ⟨w.heap.size+1+1+1,0,none⟩ (.int .i64 t.kind)).setCell ⟨w.heap.size+1+1+1,1,none⟩ (.int .i64 0)).setCell ⟨w.heap.size+1+1+1,2,none⟩ (.string ⟨#[]⟩)).setCell ⟨w.heap.size+1+1+1,3,none⟩ (.int .i64 0)).setCell ⟨w.heap.size+1+1+1,4,none⟩ (.int .i64 0)).setCell ⟨w.heap.size+1+1+1,5,none⟩ (.slice none 0 0)).setCell ⟨w.heap.size+1+1+1,6,none⟩ (.slice none 0 0)).setCell ⟨w.heap.size+1+1+1,7,none⟩ (.slice K9 m9 e9)):=⟨_,rfl⟩
    rw [← hWW] at hch hx5 ⊢
    clear hWW
    have hszV:=hch.size
    have hKW:WW.heap[D]?=some (.deferred (some [])):=(hch.block D (blk_lt HKD.out) (by omega)).trans HKD.out
    have hp:=chg_put WW D (.deferred none)
    have hx6:(WW.putObj D (.deferred none)).heap[w.heap.size+1+1+1]?=some (.cells #[.int .i64 t.kind,.int .i64 0,.string ⟨#[]⟩,.int .i64 0,.int .i64 0,.slice none 0 0,.slice none 0 0,.slice K9 m9 e9] 28 (0,0)):=(hp.block _ (blk_lt hx5) (by omega)).trans hx5
    refine ⟨by simp,.inl ⟨_,_,rfl,run_takeDeferred hKW,?_⟩⟩
    refine ⟨_,results_c rfl _ _ (w.heap.size+1+1+1) 28 #[.int .i64 t.kind,.int .i64 0,.string ⟨#[]⟩,.int .i64 0,.int .i64 0,.slice none 0 0,.slice none 0 0,.slice K9 m9 e9] (0,0) _ rfl hx6 Try.underlying28 rfl (by kernel_rfl),?_⟩
    rw [HE.out]
    have hnD:∀ k,CellsB W k→k≠D:=by
     rintro k ⟨cs,tt,fr,hk⟩ e
     rw [e,HKD.out] at hk
     cases hk
    refine ⟨⟨none,0,none,0,K9,e9⟩,by unfold tmV;rw [← HM9.out];rfl,((HTM.out.cells).same fun k hk hz=>(hp.block k (by omega) (hnD k hk.2)).trans (hch.block k hz (by rcases hk.1 with h | h;have:=HSS.out _ h;omega;omega))).mono fun k hk _=>hk.1.imp id fun h=>by omega,?_⟩
    refine Chg.trans_below (S:=fun k=>k=w1.heap.size∨k=w.heap.size+1+1+1∨k=D) (Below.trans HB1.out (HBB.out.mono HB1.out.size)) ?_ (fun k h=>by omega) (by have:=HB1.out.size;omega)
    exact chg_trans (HCW.out.mono fun k h=>.inl h) (chg_trans (hch.mono fun k h=>.inr (.inl h)) (hp.mono fun k h=>.inr (.inr h)))
end Go.Proofs.Ytdboloabpjmgaaa

namespace Go.Proofs.Ytdboloabpjmgaaa
open Go.RowKit Go.Proofs.YtdboloabpjmgaaaW.PrintWords Go.RegionInvYtdboloabpjmgaaa

theorem depth_pos (t:Tm):1≤depthT t:=by rw [depthT];omega
def maxK (t:Tm) (xs:List (Fin (nK t))):Nat:=(xs.map fun i=>depthT (kidF t i)).foldr max 0
def sumK (t:Tm) (xs:List (Fin (nK t))):Nat:=(xs.map fun i=>sizeT (kidF t i)).sum
theorem depth_eq (t:Tm):depthT t=1+maxK t (List.finRange (nK t)):=by rw [depthT];rfl
theorem size_eq (t:Tm):sizeT t=1+sumK t (List.finRange (nK t)):=by rw [sizeT];rfl
theorem me_true (N:Nat):∀ (t:Tm),SizeOf.sizeOf t<N→∀ (d b n m:Int),(foldP meF t d b (n,m)).1=true →
  d+depthT t≤2001∧n+sizeT t≤20000∧(foldP meF t d b (n,m)).2=(n+sizeT t,max m (d+depthT t - 1)):=by
 induction N with
 | zero=>intro t h;omega
 | succ N ih =>
  intro t hN d b n m h
  by_cases h1:(meF t d b (n,m)).1=true
  ·rw [foldP_go h1] at h ⊢
   have h1':=of_decide_eq_true h1
   simp only at h1'
   have key:∀ (xs:List (Fin (nK t))) (n m:Int),(runL (fun (i:Fin (nK t)) s=>foldP meF (kidF t i) (d+1) (b+moreZ t i) s) xs (n,m)).1=true →
     (∀ x∈xs,d+1+depthT (kidF t x)≤2001)∧(n≤20000→n+sumK t xs≤20000)∧(d≤m→(runL (fun (i:Fin (nK t)) s=>foldP meF (kidF t i) (d+1) (b+moreZ t i) s) xs (n,m)).2=(n+sumK t xs,max m (d+maxK t xs))):=by
    intro xs
    induction xs with
    | nil =>
     intro n m _
     refine ⟨(fun x hx=>by cases hx),(fun h=>by simp [sumK];omega),fun hd=>?_⟩
     simp only [runL,sumK,maxK,List.map_nil,List.sum_nil,List.foldr_nil,Prod.mk.injEq]
     omega
    | cons x r ihr =>
     intro n m hm
     rw [runL] at hm ⊢
     by_cases hc:(foldP meF (kidF t x) (d+1) (b+moreZ t x) (n,m)).1=true
     ·rw [if_pos hc] at hm ⊢
      have h4:=ih (kidF t x) (by have:=kidF_lt t x;omega) (d+1) (b+moreZ t x) n m hc
      rw [h4.2.2] at hm ⊢
      have h5:=ihr _ _ hm
      have e1:sumK t (x :: r)=sizeT (kidF t x)+sumK t r:=by unfold sumK;rw [List.map_cons,List.sum_cons]
      have e2:maxK t (x :: r)=max (depthT (kidF t x)) (maxK t r):=rfl
      refine ⟨fun y hy=>?_,fun hn=>?_,fun hd=>?_⟩
      ·rcases List.mem_cons.1 hy with rfl | hy
       ·exact h4.1
       ·exact h5.1 y hy
      ·have:=h5.2.1 h4.2.1;rw [e1];push_cast;omega
      ·rw [h5.2.2 (by omega),e1,e2]
       simp only [Prod.mk.injEq]
       push_cast
       have:=depth_pos (kidF t x)
       omega
     ·rw [if_neg hc] at hm;cases hm
   have h2:=key _ _ _ h
   have h3:d+depthT t≤2001:=by
    rw [depth_eq]
    have:maxK t (List.finRange (nK t))≤(2000 - d).toNat:=by
     refine max_le_of fun x hx=>?_
     obtain ⟨i,hi,rfl⟩:=List.mem_map.1 hx
     have:=h2.1 i hi
     omega
    omega
   have h4:=h2.2.1 h1'.1
   have h5:=h2.2.2 (by show d≤max m d;omega)
   rw [size_eq]
   refine ⟨h3,by push_cast;omega,?_⟩
   show (runL _ _ (n+1,max m d)).2=_
   rw [h5,depth_eq]
   simp only [Prod.mk.injEq]
   push_cast
   omega
  ·have h2:(meF t d b (n,m)).1=false:=by simpa using h1
   rw [foldP_stop h2,h2] at h;cases h
theorem me_ok (N:Nat):∀ (t:Tm),SizeOf.sizeOf t<N→∀ (d b n m:Int),d+depthT t≤2001→n+sizeT t≤20000→(foldP meF t d b (n,m)).1=true:=by
 induction N with
 | zero=>intro t h;omega
 | succ N ih =>
  intro t hN d b n m hd hn
  have hp:=size_pos t
  have hq:=depth_pos t
  have h1:(meF t d b (n,m)).1=true:=decide_eq_true ⟨by simp only;omega,by omega⟩
  rw [foldP_go h1]
  have key:∀ (xs:List (Fin (nK t))) (n m:Int),n+sumK t xs≤20000→(runL (fun (i:Fin (nK t)) s=>foldP meF (kidF t i) (d+1) (b+moreZ t i) s) xs (n,m)).1=true:=by
   intro xs
   induction xs with
   | nil=>intro n m _;rfl
   | cons x r ihr =>
    intro n m hm
    have e1:sumK t (x :: r)=sizeT (kidF t x)+sumK t r:=by unfold sumK;rw [List.map_cons,List.sum_cons]
    rw [e1] at hm
    push_cast at hm
    have h4:=ih (kidF t x) (by have:=kidF_lt t x;omega) (d+1) (b+moreZ t x) n m (by have:=depth_kid t x;omega) (by omega)
    have h5:=me_true _ (kidF t x) (Nat.lt_succ_self _) (d+1) (b+moreZ t x) n m h4
    rw [runL,if_pos h4,h5.2.2]
    exact ihr _ _ (by omega)
  refine key _ _ _ ?_
  rw [size_eq] at hn
  push_cast at hn
  show n+1+_≤_
  omega
theorem meas_yes {t:Tm} (h:okT t):measP t=((sizeT t:Int),(depthT t:Int)):=by
 have h1:=me_ok _ t (Nat.lt_succ_self _) 1 0 0 0 (by have:=h.2;omega) (by have:=h.1;omega)
 unfold measP
 rw [if_pos h1,(me_true _ t (Nat.lt_succ_self _) 1 0 0 0 h1).2.2]
 have:=depth_pos t
 simp only [Prod.mk.injEq]
 omega
theorem meas_no {t:Tm} (h:¬ okT t):measP t=(0,0):=by
 unfold measP
 refine if_neg fun h1=>h ?_
 have h2:=me_true _ t (Nat.lt_succ_self _) 1 0 0 0 h1
 exact ⟨by have:=h2.2.1;omega,by have:=h2.1;omega⟩
end Go.Proofs.Ytdboloabpjmgaaa

namespace Go.Proofs.Ytdboloabpjmgaaa
open Go.RowKit Go.Proofs.YtdboloabpjmgaaaW.PrintWords Go.RegionInvYtdboloabpjmgaaa Go.RegionEYtdboloabpjmgaaa

theorem tm_ret {w w3 W8:World} {g0 g m:Nat} {y:Tm} {q:Pl} (ht:TmS w3 (fun k=>k<g0∨m≤k) q y) (hch:Chg (fun k=>k=g) w3 W8) (hg0:g0≤w.heap.size) (hg:w.heap.size≤g) (hm:g<m) (hb:Below w.heap.size w w3):TmGot w (fun k=>k<g0) y (.returned (tmV q y)) W8:=
 ⟨q,rfl,(ht.same fun k hk hz=>hch.block k hz (by rcases hk with hk | hk <;> omega)).mono fun k hk _=>hk.imp id fun h=>by omega,Chg.trans_below hb hch (fun _ e=>by omega) hb.size⟩
theorem tm_retS {w w3 W8:World} {S:Nat→Prop} {g0 g m:Nat} {y:Tm} {q:Pl} (ht:TmS w3 (fun k=>S k∨m≤k) q y) (hch:Chg (fun k=>k=g) w3 W8) (hg0:g0≤w.heap.size) (hg:w.heap.size≤g) (hm:g<m) (hb:Below w.heap.size w w3) (hS:∀ k,S k→k<g0):TmGot w S y (.returned (tmV q y)) W8:=
 ⟨q,rfl,(ht.same fun k hk hz=>hch.block k hz (by rcases hk with hk | hk;have:=hS _ hk;omega;omega)).mono fun k hk _=>hk.imp id fun h=>by omega,Chg.trans_below hb hch (fun _ e=>by omega) hb.size⟩
theorem great_eq (t:Tm):greatB t = !decide (okT t):=by
 unfold greatB
 by_cases h:okT t
 ·rw [meas_yes h]
  have:=size_pos t
  simp [h]
  omega
 ·rw [meas_no h]
  simp [h]
set_option maxRecDepth 100000 in
set_option maxHeartbeats 4000000 in
theorem own1S_calls (S:Nat→Prop) (g0:Nat) (t:Tm) (p:Pl) (b:Int) (w:World) (hg0:g0≤w.heap.size) (hS:∀ k,S k→k<g0) (hin:TmS w S p t) :
  Calls Try.prog 94 #[tmV p t,.int .i64 b] w (TmGot w S (nodeP t)):=by
 obtain ⟨W,hW⟩:∃ W,W=(w.alloc (tmO p t)).alloc (outK 0 (.slice none 0 0)):=⟨_,rfl⟩
 have hb:Below w.heap.size w W:=by rw [hW];exact below_alloc (below_alloc (Below.refl _ _) _) _
 have HX:=Ak (show W.heap[w.heap.size]?=some (tmO p t) by rw [hW];exact box0 w _ _)
 have HX1:=Ak (show W.heap[w.heap.size+1]?=some (outK 0 (.slice none 0 0)) by rw [hW];exact box1 w _ _)
 have HZ:=Ak (show W.heap.size=w.heap.size+1+1 by rw [hW];simp)
 have HB:=Ak hb
 have HIN:=Ak (TmS.stay hin hS (hb.mono hg0))
 have HSS:=Ak hS
 obtain ⟨y,hy⟩:∃ y,y=nodeP t:=⟨_,rfl⟩
 have HY:=Ak hy
 rw [← hy]
 clear hin hb hy hS
 unfold tmV
 unfold tmO at hW
 go_enter Try.func94,Try.ntmps94
 go_upto_region 1 with (fail)
 rw [← hW]
 clear hW
 go_wp2_with (first
  | (refine wpList_load_row rfl 28 _ rfl (w.heap.size) rfl 28 _ (0,0) _ HX.out Try.underlying28 rfl (by kernel_rfl) ?_)
  | (go_at_call 63;go_must (refine (node_calls S t p W HIN.out).mono ?_;rw [← HY.out];rintro e w3 ⟨q9,rfl,ht9,hb3⟩;have HT9:=Ak ht9;have hX13:=(hb3.block _ (blk_lt HX1.out)).trans HX1.out;have HX13:=Ak hX13;have HB3:=Ak (below_then HB.out HB.out.size hb3);obtain ⟨r0,r1,r2,r3,r4,r5,r6,r7,f0,f1,f2,f3,f4,f5,f6,f7⟩:=row8c hX13;clear ht9 hb3 hX13;unfold tmV)))
 refine bodyPost_ret (results_c rfl _ _ (w.heap.size+1) 28 #[.int .i64 y.kind,.int .i64 y.num,.string y.name,.int .i64 y.lv.kind,.int .i64 y.lv.num,.slice q9.A y.lv.kids.length q9.c,.slice q9.B y.ls.length q9.d,.slice q9.K y.kids.length q9.e] (0,0) _ rfl (set8 HX13.out) Try.underlying28 rfl (by kernel_rfl)) rfl ?_
 exact tm_retS (g:=w.heap.size+1) HT9.out (chg_set8 w3 (w.heap.size+1) (.int .i64 y.kind) (.int .i64 y.num) (.string y.name) (.int .i64 y.lv.kind) (.int .i64 y.lv.num) (.slice q9.A y.lv.kids.length q9.c) (.slice q9.B y.ls.length q9.d) (.slice q9.K y.kids.length q9.e)) hg0 (by omega) (by have:=HZ.out;omega) HB3.out HSS.out

def ownT (t:Tm):Tm:=if okT t then rebP (fun t _=>nodeP t) t 0 else t
theorem ownT_ok {t:Tm} (h:okT t):ownT t=rebP (fun t _=>nodeP t) t 0:=if_pos h
theorem ownT_no {t:Tm} (h:¬ okT t):ownT t=t:=if_neg h
theorem reb_own (S:Nat→Prop) (g0:Nat) (t:Tm) (p:Pl) (w:World) (hok:okT t) (hg0:g0≤w.heap.size) (hS:∀ k,S k→k<g0) (hin:TmS w S p t) :
  Calls Try.prog 60 #[tmV p t,.int .i64 0,.func (.func 94) #[] #[]] w (TmGot w S (ownT t)):=by
 rw [ownT_ok hok]
 exact reb_Ow (fun t _=>nodeP t) (fun _=>True) S g0 g0 (Nat.le_refl _) hS (fun _ _ _ _=>trivial) (fun t p b w _ _ _ hg hin _=>own1S_calls S g0 t p b w hg hS hin) _ t (Nat.lt_succ_self _) p 0 w (by omega) (by have:=hok.2;omega) hg0 hin trivial
set_option maxRecDepth 100000 in
set_option maxHeartbeats 4000000 in
theorem townS_calls (S:Nat→Prop) (g0:Nat) (t:Tm) (p:Pl) (w:World) (hg0:g0≤w.heap.size) (hS:∀ k,S k→k<g0) (hin:TmS w S p t) :
  Calls Try.prog 56 #[tmV p t] w (TmGot w S (ownT t)):=by
 obtain ⟨W,hW⟩:∃ W,W=(w.alloc (tmO p t)).alloc (outK 0 (.slice none 0 0)):=⟨_,rfl⟩
 have hb:Below w.heap.size w W:=by rw [hW];exact below_alloc (below_alloc (Below.refl _ _) _) _
 have HX:=Ak (show W.heap[w.heap.size]?=some (tmO p t) by rw [hW];exact box0 w _ _)
 have HX1:=Ak (show W.heap[w.heap.size+1]?=some (outK 0 (.slice none 0 0)) by rw [hW];exact box1 w _ _)
 have HZ:=Ak (show W.heap.size=w.heap.size+1+1 by rw [hW];simp)
 have HB:=Ak hb
 have HIN:=Ak (TmS.stay hin hS (hb.mono hg0))
 have HSS:=Ak hS
 have HGE:=Ak (great_eq t)
 obtain ⟨y,hy⟩:∃ y,y=ownT t:=⟨_,rfl⟩
 have HY:=Ak hy
 rw [← hy]
 clear hin hb hy hS
 unfold tmV
 unfold tmO at hW
 go_enter Try.func56,Try.ntmps56
 go_upto_region 1 with (fail)
 rw [← hW]
 clear hW
 by_cases hk:okT t
 ·have HK:=Ak hk
  have HG:=Ak (show greatB t=false by rw [HGE.out];simp [hk])
  clear hk
  go_wp2_with (first
   | (refine wpList_load_row rfl 28 _ rfl (w.heap.size) rfl 28 _ (0,0) _ HX.out Try.underlying28 rfl (by kernel_rfl) ?_)
   | (refine wpList_load_row rfl 28 _ rfl (w.heap.size) rfl 28 _ (0,0) _ HX01.out Try.underlying28 rfl (by kernel_rfl) ?_)
   | (go_at_call 55;go_must (refine (great_calls t p W (TmS.all HIN.out)).mono ?_;rintro e w1 ⟨rfl,hb⟩;rw [HG.out];have HX01:=Ak ((hb.block _ (blk_lt HX.out)).trans HX.out);have HX11:=Ak ((hb.block _ (blk_lt HX1.out)).trans HX1.out);have HB1:=Ak (below_then HB.out HB.out.size hb);have HZ1:=Ak (show w.heap.size+1+1≤w1.heap.size by have:=hb.size;have:=HZ.out;omega);have HIN1:=Ak (TmS.stay HIN.out HSS.out (hb.mono (Nat.le_trans hg0 HB.out.size)));clear hb))
   | (go_at_call 60;go_must (refine (reb_own S g0 t p w1 HK.out (Nat.le_trans hg0 HB1.out.size) HSS.out HIN1.out).mono ?_;rw [← HY.out];rintro e w3 ⟨q9,rfl,ht9,hb3⟩;have HT9:=Ak ht9;have hX13:=(hb3.block _ (blk_lt HX11.out)).trans HX11.out;have HX13:=Ak hX13;have HB3:=Ak (below_then HB1.out HB1.out.size hb3);obtain ⟨r0,r1,r2,r3,r4,r5,r6,r7,f0,f1,f2,f3,f4,f5,f6,f7⟩:=row8c hX13;clear ht9 hb3 hX13;unfold tmV)))
  refine bodyPost_ret (results_c rfl _ _ (w.heap.size+1) 28 #[.int .i64 y.kind,.int .i64 y.num,.string y.name,.int .i64 y.lv.kind,.int .i64 y.lv.num,.slice q9.A y.lv.kids.length q9.c,.slice q9.B y.ls.length q9.d,.slice q9.K y.kids.length q9.e] (0,0) _ rfl (set8 HX13.out) Try.underlying28 rfl (by kernel_rfl)) rfl ?_
  exact tm_retS (g:=w.heap.size+1) HT9.out (chg_set8 w3 (w.heap.size+1) (.int .i64 y.kind) (.int .i64 y.num) (.string y.name) (.int .i64 y.lv.kind) (.int .i64 y.lv.num) (.slice q9.A y.lv.kids.length q9.c) (.slice q9.B y.ls.length q9.d) (.slice q9.K y.kids.length q9.e)) hg0 (by omega) HZ1.out HB3.out HSS.out
 ·have HG:=Ak (show greatB t=true by rw [HGE.out];simp [hk])
  obtain rfl:t=y:=(HY.out.trans (ownT_no hk)).symm
  clear hk
  go_upto_region 2 with (first
   | (refine wpList_load_row rfl 28 _ rfl (w.heap.size) rfl 28 _ (0,0) _ HX.out Try.underlying28 rfl (by kernel_rfl) ?_)
   | (go_at_call 55;go_must (refine (great_calls t p W (TmS.all HIN.out)).mono ?_;rintro e w1 ⟨rfl,hb⟩;rw [HG.out];have HX01:=Ak ((hb.block _ (blk_lt HX.out)).trans HX.out);have HX11:=Ak ((hb.block _ (blk_lt HX1.out)).trans HX1.out);have HB1:=Ak (below_then HB.out HB.out.size hb);have HIN1:=Ak (TmS.stay HIN.out HSS.out (hb.mono (Nat.le_trans hg0 HB.out.size)));clear hb)))
  obtain ⟨r0,r1,r2,r3,r4,r5,r6,r7,f0,f1,f2,f3,f4,f5,f6,f7⟩:=row8c HX11.out
  obtain ⟨c0,c1,c2,c3,c4,c5,c6,c7⟩:=row8 HX01.out
  go_wp2
  refine bodyPost_ret (results_c rfl _ _ (w.heap.size+1) 28 #[.int .i64 t.kind,.int .i64 t.num,.string t.name,.int .i64 t.lv.kind,.int .i64 t.lv.num,.slice p.A t.lv.kids.length p.c,.slice p.B t.ls.length p.d,.slice p.K t.kids.length p.e] (0,0) _ rfl (set8 HX11.out) Try.underlying28 rfl (by kernel_rfl)) rfl ?_
  exact tm_retS (g:=w.heap.size+1) (m:=w.heap.size+1+1) (TmS.mono HIN1.out fun k h _=>.inl h) (chg_set8 w1 (w.heap.size+1) (.int .i64 t.kind) (.int .i64 t.num) (.string t.name) (.int .i64 t.lv.kind) (.int .i64 t.lv.num) (.slice p.A t.lv.kids.length p.c) (.slice p.B t.ls.length p.d) (.slice p.K t.kids.length p.e)) hg0 (by omega) (by omega) HB1.out HSS.out

theorem town_calls (g0:Nat) (t:Tm) (p:Pl) (w:World) (hg0:g0≤w.heap.size) (hin:TmIn w g0 p t) :
  Calls Try.prog 56 #[tmV p t] w (TmGot w (fun k=>k<g0) (ownT t)):=townS_calls _ g0 t p w hg0 (fun _ h=>h) hin
abbrev lv0:Lv:=.mk 0 0 []
theorem TmS.flat {w:World} {S:Nat→Prop} {A B:Option Addr} {c d:Nat} {l:Lv} {ls:List Lv} (h:LvS w S A c l) (h2:LvS w S B d (.mk 0 0 ls)) (k n:Int) (nm:ByteArray) (hf:Fit n nm ls):TmS w S ⟨A,c,B,d,none,0⟩ (.mk k n nm l ls []):=
 .mk (fun _=>default) h h2 (by simp) (by simp) hf (fun i x h=>by simp at h) (fun i x h=>by simp at h)
def varT (n:Int):Tm:=.mk 1 n noName lv0 [] []
set_option maxHeartbeats 4000000 in
theorem tvar_calls (g0:Nat) (n:Int) (w:World) (hn:-9223372036854775808≤n∧n≤9223372036854775807):Calls Try.prog 14 #[.int .i64 n] w (TmGot w (fun k=>k<g0) (varT n)):=by
 go_enter Try.func14,Try.ntmps14
 go_wp2
 refine bodyPost_ret (results_c rfl _ _ w.heap.size 28 #[.int .i64 1,.int .i64 n,.string ⟨#[]⟩,.int .i64 0,.int .i64 0,.slice none 0 0,.slice none 0 0,.slice none 0 0] (0,0) _ rfl (blk_new w _) Try.underlying28 rfl (by kernel_rfl)) rfl ?_
 exact ⟨⟨none,0,none,0,none,0⟩,rfl,TmS.flat (LvS.leaf _ _ _ _) (LvS.leaf _ _ _ _) _ _ _ ⟨hn,by decide,by simp⟩,below_alloc (Below.refl _ _) _⟩
theorem ownLevel0_calls (g0:Nat) (A:Option Addr) (c:Nat) (l:Lv) (w:World) (hin:LvS w (fun k=>k<g0) A c l):Calls Try.prog 70 #[lvV A c l] w (LvGot w (fun k=>k<g0) (owP l)):=ownLevel_calls _ A c l w hin
def sortT (l:Lv):Tm:=.mk 2 0 noName (owP l) [] []
set_option maxRecDepth 100000 in
set_option maxHeartbeats 4000000 in
theorem tsort_calls (g0:Nat) (A:Option Addr) (c:Nat) (l:Lv) (w:World) (hg0:g0≤w.heap.size) (hin:LvS w (fun k=>k<g0) A c l):Calls Try.prog 27 #[lvV A c l] w (TmGot w (fun k=>k<g0) (sortT l)):=by
 obtain ⟨W,hW⟩:∃ W,W=(w.alloc (.cells #[.int .i64 l.kind,.int .i64 l.num,.slice A l.kids.length c] 25 (0,0))).alloc (outK 0 (.slice none 0 0)):=⟨_,rfl⟩
 have hb:Below w.heap.size w W:=by rw [hW];exact below_alloc (below_alloc (Below.refl _ _) _) _
 have HX:=Ak (show W.heap[w.heap.size]?=some (.cells #[.int .i64 l.kind,.int .i64 l.num,.slice A l.kids.length c] 25 (0,0)) by rw [hW];exact box0 w _ _)
 have HX1:=Ak (show W.heap[w.heap.size+1]?=some (outK 0 (.slice none 0 0)) by rw [hW];exact box1 w _ _)
 have HZ:=Ak (show W.heap.size=w.heap.size+1+1 by rw [hW];simp)
 have HB:=Ak hb
 have HIN:=Ak (LvS.same (w':=W) hin fun k hk _=>hb.block k (by omega))
 obtain ⟨y,hy⟩:∃ y,y=owP l:=⟨_,rfl⟩
 have HY:=Ak hy
 unfold sortT
 rw [← hy]
 clear hin hb hy
 unfold lvV
 go_enter Try.func27,Try.ntmps27
 go_upto_region 1 with (fail)
 rw [← hW]
 clear hW
 go_wp2_with (first
  | (refine wpList_load_row rfl 25 _ rfl (w.heap.size) rfl 25 _ (0,0) _ HX.out Try.underlying25 rfl (by kernel_rfl) ?_)
  | (go_at_call 70;go_must (refine (ownLevel0_calls g0 A c l W HIN.out).mono ?_;rw [← HY.out];rintro e w3 ⟨A9,c9,rfl,ht9,hb3⟩;have HT9:=Ak ht9;have hX13:=(hb3.block _ (blk_lt HX1.out)).trans HX1.out;have HX13:=Ak hX13;have HB3:=Ak (below_then HB.out HB.out.size hb3);obtain ⟨r0,r1,r2,r3,r4,r5,r6,r7,f0,f1,f2,f3,f4,f5,f6,f7⟩:=row8c hX13;clear ht9 hb3 hX13;unfold lvV)))
 refine bodyPost_ret (results_c rfl _ _ (w.heap.size+1) 28 #[.int .i64 2,.int .i64 0,.string ⟨#[]⟩,.int .i64 y.kind,.int .i64 y.num,.slice A9 y.kids.length c9,.slice none 0 0,.slice none 0 0] (0,0) _ rfl (set8 HX13.out) Try.underlying28 rfl (by kernel_rfl)) rfl ?_
 have hz:=HZ.out
 exact tm_ret (q:=⟨A9,c9,none,0,none,0⟩) (y:=.mk 2 0 noName y [] []) (g:=w.heap.size+1) (m:=W.heap.size) (TmS.flat HT9.out (LvS.leaf _ _ _ _) _ _ _ ⟨by decide,by decide,by simp⟩) (chg_set8 w3 (w.heap.size+1) (.int .i64 2) (.int .i64 0) (.string ⟨#[]⟩) (.int .i64 y.kind) (.int .i64 y.num) (.slice A9 y.kids.length c9) (.slice none 0 0) (.slice none 0 0)) hg0 (by omega) (by omega) HB3.out
def consT (nm:ByteArray) (ls:List Lv):Tm:=nodeP (.mk 7 0 nm lv0 ls [])
set_option maxRecDepth 100000 in
set_option maxHeartbeats 4000000 in
theorem tconst_calls (g0:Nat) (nm:ByteArray) (B:Option Addr) (d n:Nat) (ls:List Lv) (w:World) (hg0:g0≤w.heap.size) (hn:n=ls.length) (hnm:nm.size≤140737488355328) (hl40:ls.length * 40≤140737488355328) (hin:LvS w (fun k=>k<g0) B d (.mk 0 0 ls)) :
  Calls Try.prog 28 #[.string nm,.slice B n d] w (TmGot w (fun k=>k<g0) (consT nm ls)):=by
 obtain ⟨W,hW⟩:∃ W,W=w.alloc (outK 0 (.slice none 0 0)):=⟨_,rfl⟩
 have hb:Below w.heap.size w W:=by rw [hW];exact below_alloc (Below.refl _ _) _
 have HX1:=Ak (show W.heap[w.heap.size]?=some (outK 0 (.slice none 0 0)) by rw [hW];exact blk_new w _)
 have HZ:=Ak (show W.heap.size=w.heap.size+1 by rw [hW];simp)
 have HB:=Ak hb
 have HIN:=Ak (show TmS W (fun k=>k<g0) ⟨none,0,B,d,none,0⟩ (.mk 7 0 nm lv0 ls []) from TmS.flat (LvS.leaf _ _ _ _) (LvS.same (w':=W) hin fun k hk _=>hb.block k (by omega)) _ _ _ ⟨by decide,hnm,hl40⟩)
 have HCA:=Ak (show ∀ W,TmS W (fun k=>k<g0) ⟨none,0,B,d,none,0⟩ (.mk 7 0 nm lv0 ls [])→Calls Try.prog 63 #[.agg #[.int .i64 7,.int .i64 0,.string nm,.int .i64 0,.int .i64 0,.slice none 0 0,.slice B n d,.slice none 0 0]] W (TmGot W (fun k=>k<g0) (consT nm ls)) from fun W h=>by subst hn;exact node_calls (fun k=>k<g0) (.mk 7 0 nm lv0 ls []) ⟨none,0,B,d,none,0⟩ W h)
 obtain ⟨y,hy⟩:∃ y,y=consT nm ls:=⟨_,rfl⟩
 have HY:=Ak hy
 rw [← hy]
 clear hin hb hy hn
 go_enter Try.func28,Try.ntmps28
 go_upto_region 1 with (fail)
 rw [← hW]
 clear hW
 go_wp2_with (go_at_call 63;go_must (refine (HCA.out W HIN.out).mono ?_;rw [← HY.out];rintro e w3 ⟨q9,rfl,ht9,hb3⟩;have HT9:=Ak ht9;have hX13:=(hb3.block _ (blk_lt HX1.out)).trans HX1.out;have HX13:=Ak hX13;have HB3:=Ak (below_then HB.out HB.out.size hb3);obtain ⟨r0,r1,r2,r3,r4,r5,r6,r7,f0,f1,f2,f3,f4,f5,f6,f7⟩:=row8c hX13;clear ht9 hb3 hX13;unfold tmV))
 refine bodyPost_ret (results_c rfl _ _ (w.heap.size) 28 #[.int .i64 y.kind,.int .i64 y.num,.string y.name,.int .i64 y.lv.kind,.int .i64 y.lv.num,.slice q9.A y.lv.kids.length q9.c,.slice q9.B y.ls.length q9.d,.slice q9.K y.kids.length q9.e] (0,0) _ rfl (set8 HX13.out) Try.underlying28 rfl (by kernel_rfl)) rfl ?_
 exact tm_ret (g:=w.heap.size) HT9.out (chg_set8 w3 (w.heap.size) (.int .i64 y.kind) (.int .i64 y.num) (.string y.name) (.int .i64 y.lv.kind) (.int .i64 y.lv.num) (.slice q9.A y.lv.kids.length q9.c) (.slice q9.B y.ls.length q9.d) (.slice q9.K y.kids.length q9.e)) hg0 (by omega) (by have:=HZ.out;omega) HB3.out

end Go.Proofs.Ytdboloabpjmgaaa

namespace Go.Proofs.Ytdboloabpjmgaaa
open Go.RowKit Go.Proofs.YtdboloabpjmgaaaW.PrintWords Go.RegionInvYtdboloabpjmgaaa Go.RegionEYtdboloabpjmgaaa

theorem TmS.renum {w:World} {S:Nat→Prop} {p:Pl} {k n m:Int} {nm:ByteArray} {l:Lv} {ls:List Lv} {ks:List Tm} (h:TmS w S p (.mk k n nm l ls ks)) (hm:-9223372036854775808≤m∧m≤9223372036854775807):TmS w S p (.mk k m nm l ls ks):=by
 cases h with
 | mk q h1 h2 h3 h4 h5 h6 h7=>exact .mk q h1 h2 h3 h4 ⟨hm,h5.2⟩ h6 h7
def liftN (fr by_ n b:Int):Int:=if n<b∨n - b<fr then n else if 0<by_ then min n (9223372036854775807 - by_)+by_ else max b (n+by_)
def liftF (fr by_:Int) (t:Tm) (b:Int):Tm:=if t.kind=1 then varT (liftN fr by_ t.num b) else nodeP t
theorem liftF_no {fr by_ b:Int} {t:Tm} (h:¬ t.kind=1):liftF fr by_ t b=nodeP t:=if_neg h
theorem liftF_var {fr by_ b:Int} {t:Tm} (h:t.kind=1):liftF fr by_ t b=varT (liftN fr by_ t.num b):=if_pos h
theorem nodeP_var {t:Tm} (h:t.kind=1):nodeP t=varT t.num:=by unfold nodeP varT;rw [h];rfl
theorem liftN_lo {fr by_ n b:Int} (h:n<b∨n - b<fr):liftN fr by_ n b=n:=if_pos h
theorem liftN_up {fr by_ n b:Int} (h:¬ (n<b∨n - b<fr)) (h2:0<by_):liftN fr by_ n b=min n (9223372036854775807 - by_)+by_:=by unfold liftN;rw [if_neg h,if_pos h2]
theorem liftN_dn {fr by_ n b:Int} (h:¬ (n<b∨n - b<fr)) (h2:¬ 0<by_):liftN fr by_ n b=max b (n+by_):=by unfold liftN;rw [if_neg h,if_neg h2]
structure RepLi (gf gb:Nat) (fr by_:Int) (w:World):Prop where
 fr:w.heap[gf]?=some (.cells #[.int .i64 fr] 3 (0,0))
 by_:w.heap[gb]?=some (.cells #[.int .i64 by_] 3 (0,0))

set_option maxRecDepth 100000 in
set_option maxHeartbeats 1000000 in
theorem lift1_calls (g0 g1 gf gb:Nat) (fr by_:Int) (t:Tm) (p:Pl) (b:Int) (w:World) (h01:g0≤g1) (hgf:gf<g1) (hgb:gb<g1) (hg1:g1≤w.heap.size) (hb0:0≤b) (hb1:b≤1000000) (hf0:0≤fr) (hby:-1048576≤by_∧by_≤1048576) (hin:TmIn w g0 p t) (hR:RepLi gf gb fr by_ w) :
  Calls Try.prog 97 #[tmV p t,.int .i64 b,.pointer (some ⟨gf,0,none⟩),.pointer (some ⟨gb,0,none⟩)] w (TmGot w (fun k=>k<g0) (liftF fr by_ t b)):=by
 have hg0:g0≤w.heap.size:=Nat.le_trans h01 hg1
 have hnr:=hin.fit.1
 obtain ⟨hn0,hn1⟩:=hnr
 obtain ⟨hby0,hby1⟩:=hby
 have HR:=Ak hR
 obtain ⟨W,hW⟩:∃ W,W=(w.alloc (tmO p t)).alloc (outK 0 (.slice none 0 0)):=⟨_,rfl⟩
 have hb:Below w.heap.size w W:=by rw [hW];exact below_alloc (below_alloc (Below.refl _ _) _) _
 have HX:=Ak (show W.heap[w.heap.size]?=some (tmO p t) by rw [hW];exact box0 w _ _)
 have HX1:=Ak (show W.heap[w.heap.size+1]?=some (outK 0 (.slice none 0 0)) by rw [hW];exact box1 w _ _)
 have HZ:=Ak (show W.heap.size=w.heap.size+1+1 by rw [hW];simp)
 have HB:=Ak hb
 have HIN:=Ak (TmIn.stay hin (hb.mono hg0))
 obtain ⟨y,hy⟩:∃ y,y=nodeP t:=⟨_,rfl⟩
 have HY:=Ak hy
 obtain ⟨z,hz⟩:∃ z,z=liftF fr by_ t b:=⟨_,rfl⟩
 have HZZ:=Ak hz
 rw [← hz]
 clear hin hb hy hz hR
 unfold tmV
 unfold tmO at hW
 go_enter Try.func97,Try.ntmps97
 go_upto_region 1 with (fail)
 rw [← hW]
 clear hW
 obtain ⟨tk,htk⟩:∃ x,t.kind=x:=⟨_,rfl⟩
 obtain ⟨tn,htn⟩:∃ x,t.num=x:=⟨_,rfl⟩
 by_cases k1:t.kind=1
 ·have HYV:=Ak (show y=varT t.num by rw [HY.out];exact nodeP_var k1)
  have HZV:=Ak (show z=varT (liftN fr by_ t.num b) by rw [HZZ.out];exact liftF_var k1)
  have e1:(t.kind != 1)=false:=by simp [k1]
  clear htk htn k1
  go_upto_block 0 with (first
   | (refine wpList_load_row rfl 28 _ rfl (w.heap.size) rfl 28 _ (0,0) _ HX.out Try.underlying28 rfl (by kernel_rfl) ?_)
   | (go_at_call 63;go_must (refine (node_calls (fun k=>k<g0) t p W HIN.out).mono ?_;rw [← HY.out];rintro e w3 ⟨q9,rfl,ht9,hb3⟩;have HT9:=Ak ht9;have HT9Z:=Ak (TmS.mono (S':=fun k=>(k<g0∨W.heap.size≤k)∧k<w3.heap.size) ht9 fun k h hz=>⟨h,hz⟩);have HX3:=Ak ((hb3.block _ (blk_lt HX.out)).trans HX.out);have HX13:=Ak ((hb3.block _ (blk_lt HX1.out)).trans HX1.out);have HB3:=Ak (below_then HB.out HB.out.size hb3);have HZ3:=Ak (show w.heap.size+1+1≤w3.heap.size by have:=hb3.size;have:=HZ.out;omega);clear ht9 hb3;unfold tmV)))
  obtain ⟨W4,hW4⟩:∃ W4,W4=w3.alloc (tmO q9 y):=⟨_,rfl⟩
  have hb4:Below w3.heap.size w3 W4:=by rw [hW4];exact below_alloc (Below.refl _ _) _
  have hO4:W4.heap[w3.heap.size]?=some (tmO q9 y):=by rw [hW4];exact blk_new _ _
  have hz3:=HZ3.out
  have hz0:=HB3.out.size
  have HX4:=Ak ((hb4.block _ (by omega)).trans HX3.out)
  have hX14:=(hb4.block _ (show w.heap.size+1<w3.heap.size by omega)).trans HX13.out
  have HX14:=Ak hX14
  have HT4:=Ak (HT9.out.later hb4)
  have HO4:=Ak hO4
  have HB4:=Ak (below_then HB3.out HB3.out.size hb4)
  have hzo:=blk_lt hO4
  have HBW4:=Ak hb4
  have hgf:=(hb4.block gf (by omega)).trans ((HB3.out.block gf (by omega)).trans HR.out.fr)
  have hgb:=(hb4.block gb (by omega)).trans ((HB3.out.block gb (by omega)).trans HR.out.by_)
  have k1c:W4.cell? ⟨gf,0,none⟩=some (.int .i64 fr):=by rw [cell_of_row _ _ _ _ _ _ hgf];rfl
  have k2c:W4.cell? ⟨gb,0,none⟩=some (.int .i64 by_):=by rw [cell_of_row _ _ _ _ _ _ hgb];rfl
  obtain ⟨c0,c1,c2,c3,c4,c5,c6,c7⟩:=row8 HX4.out
  obtain ⟨r0,r1,r2,r3,r4,r5,r6,r7,f0,f1,f2,f3,f4,f5,f6,f7⟩:=row8c hX14
  have fo:=blk_frozen hO4 1
  obtain ⟨o0,o1,o2,o3,o4,o5,o6,o7⟩:=row8 hO4
  unfold tmO at hW4
  rw [← hW4]
  clear hW4 hb4 hO4 hX14 hgf hgb
  by_cases hlo:t.num<b
  ·obtain rfl:y=z:=by rw [HYV.out,HZV.out,liftN_lo (.inl hlo)]
   go_wp2_with (refine wpList_load_row rfl 28 _ rfl (w3.heap.size) rfl 28 _ (0,0) _ HO4.out Try.underlying28 rfl (by kernel_rfl) ?_)
   refine bodyPost_ret (results_c rfl _ _ (w.heap.size+1) 28 #[.int .i64 y.kind,.int .i64 y.num,.string y.name,.int .i64 y.lv.kind,.int .i64 y.lv.num,.slice q9.A y.lv.kids.length q9.c,.slice q9.B y.ls.length q9.d,.slice q9.K y.kids.length q9.e] (0,0) _ rfl (set8 HX14.out) Try.underlying28 rfl (by kernel_rfl)) rfl ?_
   exact tm_ret (g:=w.heap.size+1) HT4.out (chg_set8 W4 (w.heap.size+1) (.int .i64 y.kind) (.int .i64 y.num) (.string y.name) (.int .i64 y.lv.kind) (.int .i64 y.lv.num) (.slice q9.A y.lv.kids.length q9.c) (.slice q9.B y.ls.length q9.d) (.slice q9.K y.kids.length q9.e)) hg0 (by omega) (by have:=HZ.out;omega) HB4.out
  ·by_cases hlo2:t.num - b<fr
   ·obtain rfl:y=z:=by rw [HYV.out,HZV.out,liftN_lo (.inr hlo2)]
    go_wp2_with (refine wpList_load_row rfl 28 _ rfl (w3.heap.size) rfl 28 _ (0,0) _ HO4.out Try.underlying28 rfl (by kernel_rfl) ?_)
    refine bodyPost_ret (results_c rfl _ _ (w.heap.size+1) 28 #[.int .i64 y.kind,.int .i64 y.num,.string y.name,.int .i64 y.lv.kind,.int .i64 y.lv.num,.slice q9.A y.lv.kids.length q9.c,.slice q9.B y.ls.length q9.d,.slice q9.K y.kids.length q9.e] (0,0) _ rfl (set8 HX14.out) Try.underlying28 rfl (by kernel_rfl)) rfl ?_
    exact tm_ret (g:=w.heap.size+1) HT4.out (chg_set8 W4 (w.heap.size+1) (.int .i64 y.kind) (.int .i64 y.num) (.string y.name) (.int .i64 y.lv.kind) (.int .i64 y.lv.num) (.slice q9.A y.lv.kids.length q9.c) (.slice q9.B y.ls.length q9.d) (.slice q9.K y.kids.length q9.e)) hg0 (by omega) (by have:=HZ.out;omega) HB4.out
   ·have hno:¬ (t.num<b∨t.num - b<fr):=fun h=>h.elim hlo hlo2
    by_cases hpos:0<by_
    ·by_cases hm:t.num≤9223372036854775807 - by_
     ·go_upto_region 6 with (fail)
      obtain ⟨W5,hW5⟩:∃ W5,W5=W4.setCell ⟨w3.heap.size,1,none⟩ (.int .i64 (t.num+by_)):=⟨_,rfl⟩
      have hc5:=chg_set W4 w3.heap.size 1 (.int .i64 (t.num+by_))
      have hO5:=blk_put HO4.out 1 (.int .i64 (t.num+by_)) rfl
      rw [← hW5] at hc5 hO5 ⊢
      clear hW5
      have HZE:=Ak (show z=varT (t.num+by_) by rw [HZV.out];congr 1;rw [liftN_up hno hpos];omega)
      have HO5:=Ak (show W5.heap[w3.heap.size]?=some (tmO q9 z) by rw [hO5,HZE.out,HYV.out];rfl)
      have hX15:=(hc5.block (w.heap.size+1) (by omega) (by omega)).trans HX14.out
      have HX15:=Ak hX15
      have HT5:=Ak (show TmS W5 (fun k=>k<g0∨W.heap.size≤k) q9 z by
       have h:=HT9Z.out
       rw [HYV.out] at h
       rw [HZE.out]
       exact ((TmS.renum (m:=t.num+by_) h (by omega)).same fun k hk hz=>(hc5.block k (by omega) (by omega)).trans (HBW4.out.block k hk.2)).mono fun k hk _=>hk.1)
      have HB5:=Ak (Chg.trans_below HB4.out hc5 (fun k h=>by omega) HB4.out.size)
      obtain ⟨s0,s1,s2,s3,s4,s5,s6,s7,h0,h1,h2,h3,h4,h5,h6,h7⟩:=row8c hX15
      clear hc5 hO5 hX15 r0 r1 r2 r3 r4 r5 r6 r7 f0 f1 f2 f3 f4 f5 f6 f7 o0 o1 o2 o3 o4 o5 o6 o7 c0 c1 c2 c3 c4 c5 c6 c7 k1c k2c
      go_wp2_with (refine wpList_load_row rfl 28 _ rfl (w3.heap.size) rfl 28 _ (0,0) _ HO5.out Try.underlying28 rfl (by kernel_rfl) ?_)
      refine bodyPost_ret (results_c rfl _ _ (w.heap.size+1) 28 #[.int .i64 z.kind,.int .i64 z.num,.string z.name,.int .i64 z.lv.kind,.int .i64 z.lv.num,.slice q9.A z.lv.kids.length q9.c,.slice q9.B z.ls.length q9.d,.slice q9.K z.kids.length q9.e] (0,0) _ rfl (set8 HX15.out) Try.underlying28 rfl (by kernel_rfl)) rfl ?_
      exact tm_ret (g:=w.heap.size+1) HT5.out (chg_set8 W5 (w.heap.size+1) (.int .i64 z.kind) (.int .i64 z.num) (.string z.name) (.int .i64 z.lv.kind) (.int .i64 z.lv.num) (.slice q9.A z.lv.kids.length q9.c) (.slice q9.B z.ls.length q9.d) (.slice q9.K z.kids.length q9.e)) hg0 (by omega) (by have:=HZ.out;omega) HB5.out
     ·have hm2:¬ t.num≤9223372036854775807 - by_:=hm
      go_upto_region 6 with (fail)
      obtain ⟨W5,hW5⟩:∃ W5,W5=W4.setCell ⟨w3.heap.size,1,none⟩ (.int .i64 (9223372036854775807)):=⟨_,rfl⟩
      have hc5:=chg_set W4 w3.heap.size 1 (.int .i64 (9223372036854775807))
      have hO5:=blk_put HO4.out 1 (.int .i64 (9223372036854775807)) rfl
      rw [← hW5] at hc5 hO5 ⊢
      clear hW5
      have HZE:=Ak (show z=varT (9223372036854775807) by rw [HZV.out];congr 1;rw [liftN_up hno hpos];omega)
      have HO5:=Ak (show W5.heap[w3.heap.size]?=some (tmO q9 z) by rw [hO5,HZE.out,HYV.out];rfl)
      have hX15:=(hc5.block (w.heap.size+1) (by omega) (by omega)).trans HX14.out
      have HX15:=Ak hX15
      have HT5:=Ak (show TmS W5 (fun k=>k<g0∨W.heap.size≤k) q9 z by
       have h:=HT9Z.out
       rw [HYV.out] at h
       rw [HZE.out]
       exact ((TmS.renum (m:=9223372036854775807) h (by omega)).same fun k hk hz=>(hc5.block k (by omega) (by omega)).trans (HBW4.out.block k hk.2)).mono fun k hk _=>hk.1)
      have HB5:=Ak (Chg.trans_below HB4.out hc5 (fun k h=>by omega) HB4.out.size)
      obtain ⟨s0,s1,s2,s3,s4,s5,s6,s7,h0,h1,h2,h3,h4,h5,h6,h7⟩:=row8c hX15
      clear hc5 hO5 hX15 r0 r1 r2 r3 r4 r5 r6 r7 f0 f1 f2 f3 f4 f5 f6 f7 o0 o1 o2 o3 o4 o5 o6 o7 c0 c1 c2 c3 c4 c5 c6 c7 k1c k2c
      go_wp2_with (refine wpList_load_row rfl 28 _ rfl (w3.heap.size) rfl 28 _ (0,0) _ HO5.out Try.underlying28 rfl (by kernel_rfl) ?_)
      refine bodyPost_ret (results_c rfl _ _ (w.heap.size+1) 28 #[.int .i64 z.kind,.int .i64 z.num,.string z.name,.int .i64 z.lv.kind,.int .i64 z.lv.num,.slice q9.A z.lv.kids.length q9.c,.slice q9.B z.ls.length q9.d,.slice q9.K z.kids.length q9.e] (0,0) _ rfl (set8 HX15.out) Try.underlying28 rfl (by kernel_rfl)) rfl ?_
      exact tm_ret (g:=w.heap.size+1) HT5.out (chg_set8 W5 (w.heap.size+1) (.int .i64 z.kind) (.int .i64 z.num) (.string z.name) (.int .i64 z.lv.kind) (.int .i64 z.lv.num) (.slice q9.A z.lv.kids.length q9.c) (.slice q9.B z.ls.length q9.d) (.slice q9.K z.kids.length q9.e)) hg0 (by omega) (by have:=HZ.out;omega) HB5.out
    ·by_cases hm:b<t.num+by_
     ·go_upto_region 6 with (fail)
      obtain ⟨W5,hW5⟩:∃ W5,W5=W4.setCell ⟨w3.heap.size,1,none⟩ (.int .i64 (t.num+by_)):=⟨_,rfl⟩
      have hc5:=chg_set W4 w3.heap.size 1 (.int .i64 (t.num+by_))
      have hO5:=blk_put HO4.out 1 (.int .i64 (t.num+by_)) rfl
      rw [← hW5] at hc5 hO5 ⊢
      clear hW5
      have HZE:=Ak (show z=varT (t.num+by_) by rw [HZV.out];congr 1;rw [liftN_dn hno hpos];omega)
      have HO5:=Ak (show W5.heap[w3.heap.size]?=some (tmO q9 z) by rw [hO5,HZE.out,HYV.out];rfl)
      have hX15:=(hc5.block (w.heap.size+1) (by omega) (by omega)).trans HX14.out
      have HX15:=Ak hX15
      have HT5:=Ak (show TmS W5 (fun k=>k<g0∨W.heap.size≤k) q9 z by
       have h:=HT9Z.out
       rw [HYV.out] at h
       rw [HZE.out]
       exact ((TmS.renum (m:=t.num+by_) h (by omega)).same fun k hk hz=>(hc5.block k (by omega) (by omega)).trans (HBW4.out.block k hk.2)).mono fun k hk _=>hk.1)
      have HB5:=Ak (Chg.trans_below HB4.out hc5 (fun k h=>by omega) HB4.out.size)
      obtain ⟨s0,s1,s2,s3,s4,s5,s6,s7,h0,h1,h2,h3,h4,h5,h6,h7⟩:=row8c hX15
      clear hc5 hO5 hX15 r0 r1 r2 r3 r4 r5 r6 r7 f0 f1 f2 f3 f4 f5 f6 f7 o0 o1 o2 o3 o4 o5 o6 o7 c0 c1 c2 c3 c4 c5 c6 c7 k1c k2c
      go_wp2_with (refine wpList_load_row rfl 28 _ rfl (w3.heap.size) rfl 28 _ (0,0) _ HO5.out Try.underlying28 rfl (by kernel_rfl) ?_)
      refine bodyPost_ret (results_c rfl _ _ (w.heap.size+1) 28 #[.int .i64 z.kind,.int .i64 z.num,.string z.name,.int .i64 z.lv.kind,.int .i64 z.lv.num,.slice q9.A z.lv.kids.length q9.c,.slice q9.B z.ls.length q9.d,.slice q9.K z.kids.length q9.e] (0,0) _ rfl (set8 HX15.out) Try.underlying28 rfl (by kernel_rfl)) rfl ?_
      exact tm_ret (g:=w.heap.size+1) HT5.out (chg_set8 W5 (w.heap.size+1) (.int .i64 z.kind) (.int .i64 z.num) (.string z.name) (.int .i64 z.lv.kind) (.int .i64 z.lv.num) (.slice q9.A z.lv.kids.length q9.c) (.slice q9.B z.ls.length q9.d) (.slice q9.K z.kids.length q9.e)) hg0 (by omega) (by have:=HZ.out;omega) HB5.out
     ·have hm2:¬ b<t.num+by_:=hm
      go_upto_region 6 with (fail)
      obtain ⟨W5,hW5⟩:∃ W5,W5=W4.setCell ⟨w3.heap.size,1,none⟩ (.int .i64 (b)):=⟨_,rfl⟩
      have hc5:=chg_set W4 w3.heap.size 1 (.int .i64 (b))
      have hO5:=blk_put HO4.out 1 (.int .i64 (b)) rfl
      rw [← hW5] at hc5 hO5 ⊢
      clear hW5
      have HZE:=Ak (show z=varT (b) by rw [HZV.out];congr 1;rw [liftN_dn hno hpos];omega)
      have HO5:=Ak (show W5.heap[w3.heap.size]?=some (tmO q9 z) by rw [hO5,HZE.out,HYV.out];rfl)
      have hX15:=(hc5.block (w.heap.size+1) (by omega) (by omega)).trans HX14.out
      have HX15:=Ak hX15
      have HT5:=Ak (show TmS W5 (fun k=>k<g0∨W.heap.size≤k) q9 z by
       have h:=HT9Z.out
       rw [HYV.out] at h
       rw [HZE.out]
       exact ((TmS.renum (m:=b) h (by omega)).same fun k hk hz=>(hc5.block k (by omega) (by omega)).trans (HBW4.out.block k hk.2)).mono fun k hk _=>hk.1)
      have HB5:=Ak (Chg.trans_below HB4.out hc5 (fun k h=>by omega) HB4.out.size)
      obtain ⟨s0,s1,s2,s3,s4,s5,s6,s7,h0,h1,h2,h3,h4,h5,h6,h7⟩:=row8c hX15
      clear hc5 hO5 hX15 r0 r1 r2 r3 r4 r5 r6 r7 f0 f1 f2 f3 f4 f5 f6 f7 o0 o1 o2 o3 o4 o5 o6 o7 c0 c1 c2 c3 c4 c5 c6 c7 k1c k2c
      go_wp2_with (refine wpList_load_row rfl 28 _ rfl (w3.heap.size) rfl 28 _ (0,0) _ HO5.out Try.underlying28 rfl (by kernel_rfl) ?_)
      refine bodyPost_ret (results_c rfl _ _ (w.heap.size+1) 28 #[.int .i64 z.kind,.int .i64 z.num,.string z.name,.int .i64 z.lv.kind,.int .i64 z.lv.num,.slice q9.A z.lv.kids.length q9.c,.slice q9.B z.ls.length q9.d,.slice q9.K z.kids.length q9.e] (0,0) _ rfl (set8 HX15.out) Try.underlying28 rfl (by kernel_rfl)) rfl ?_
      exact tm_ret (g:=w.heap.size+1) HT5.out (chg_set8 W5 (w.heap.size+1) (.int .i64 z.kind) (.int .i64 z.num) (.string z.name) (.int .i64 z.lv.kind) (.int .i64 z.lv.num) (.slice q9.A z.lv.kids.length q9.c) (.slice q9.B z.ls.length q9.d) (.slice q9.K z.kids.length q9.e)) hg0 (by omega) (by have:=HZ.out;omega) HB5.out
 ·have HZV:=Ak (show z=y by rw [HZZ.out,HY.out];exact liftF_no k1)
  have e1:(t.kind != 1)=true:=by simp [k1]
  clear htk htn k1
  go_upto_block 0 with (first
   | (refine wpList_load_row rfl 28 _ rfl (w.heap.size) rfl 28 _ (0,0) _ HX.out Try.underlying28 rfl (by kernel_rfl) ?_)
   | (go_at_call 63;go_must (refine (node_calls (fun k=>k<g0) t p W HIN.out).mono ?_;rw [← HY.out];rintro e w3 ⟨q9,rfl,ht9,hb3⟩;have HT9:=Ak ht9;have HT9Z:=Ak (TmS.mono (S':=fun k=>(k<g0∨W.heap.size≤k)∧k<w3.heap.size) ht9 fun k h hz=>⟨h,hz⟩);have HX3:=Ak ((hb3.block _ (blk_lt HX.out)).trans HX.out);have HX13:=Ak ((hb3.block _ (blk_lt HX1.out)).trans HX1.out);have HB3:=Ak (below_then HB.out HB.out.size hb3);have HZ3:=Ak (show w.heap.size+1+1≤w3.heap.size by have:=hb3.size;have:=HZ.out;omega);clear ht9 hb3;unfold tmV)))
  obtain ⟨W4,hW4⟩:∃ W4,W4=w3.alloc (tmO q9 y):=⟨_,rfl⟩
  have hb4:Below w3.heap.size w3 W4:=by rw [hW4];exact below_alloc (Below.refl _ _) _
  have hO4:W4.heap[w3.heap.size]?=some (tmO q9 y):=by rw [hW4];exact blk_new _ _
  have hz3:=HZ3.out
  have hz0:=HB3.out.size
  have HX4:=Ak ((hb4.block _ (by omega)).trans HX3.out)
  have hX14:=(hb4.block _ (show w.heap.size+1<w3.heap.size by omega)).trans HX13.out
  have HX14:=Ak hX14
  have HT4:=Ak (HT9.out.later hb4)
  have HO4:=Ak hO4
  have HB4:=Ak (below_then HB3.out HB3.out.size hb4)
  have hzo:=blk_lt hO4
  have HBW4:=Ak hb4
  have hgf:=(hb4.block gf (by omega)).trans ((HB3.out.block gf (by omega)).trans HR.out.fr)
  have hgb:=(hb4.block gb (by omega)).trans ((HB3.out.block gb (by omega)).trans HR.out.by_)
  have k1c:W4.cell? ⟨gf,0,none⟩=some (.int .i64 fr):=by rw [cell_of_row _ _ _ _ _ _ hgf];rfl
  have k2c:W4.cell? ⟨gb,0,none⟩=some (.int .i64 by_):=by rw [cell_of_row _ _ _ _ _ _ hgb];rfl
  obtain ⟨c0,c1,c2,c3,c4,c5,c6,c7⟩:=row8 HX4.out
  obtain ⟨r0,r1,r2,r3,r4,r5,r6,r7,f0,f1,f2,f3,f4,f5,f6,f7⟩:=row8c hX14
  have fo:=blk_frozen hO4 1
  obtain ⟨o0,o1,o2,o3,o4,o5,o6,o7⟩:=row8 hO4
  unfold tmO at hW4
  rw [← hW4]
  clear hW4 hb4 hO4 hX14 hgf hgb
  obtain rfl:y=z:=HZV.out.symm
  go_wp2_with (refine wpList_load_row rfl 28 _ rfl (w3.heap.size) rfl 28 _ (0,0) _ HO4.out Try.underlying28 rfl (by kernel_rfl) ?_)
  refine bodyPost_ret (results_c rfl _ _ (w.heap.size+1) 28 #[.int .i64 y.kind,.int .i64 y.num,.string y.name,.int .i64 y.lv.kind,.int .i64 y.lv.num,.slice q9.A y.lv.kids.length q9.c,.slice q9.B y.ls.length q9.d,.slice q9.K y.kids.length q9.e] (0,0) _ rfl (set8 HX14.out) Try.underlying28 rfl (by kernel_rfl)) rfl ?_
  exact tm_ret (g:=w.heap.size+1) HT4.out (chg_set8 W4 (w.heap.size+1) (.int .i64 y.kind) (.int .i64 y.num) (.string y.name) (.int .i64 y.lv.kind) (.int .i64 y.lv.num) (.slice q9.A y.lv.kids.length q9.c) (.slice q9.B y.ls.length q9.d) (.slice q9.K y.kids.length q9.e)) hg0 (by omega) (by have:=HZ.out;omega) HB4.out

def liftT (fr by_:Int) (t:Tm):Tm:=rebP (liftF fr by_) t 0
theorem reb_lift (g0 g1 gf gb:Nat) (fr by_:Int) (t:Tm) (p:Pl) (w:World) (hok:okT t) (h01:g0≤g1) (hgf:gf<g1) (hgb:gb<g1) (hg1:g1≤w.heap.size) (hf0:0≤fr) (hby:-1048576≤by_∧by_≤1048576) (hin:TmIn w g0 p t) (hR:RepLi gf gb fr by_ w) :
  Calls Try.prog 60 #[tmV p t,.int .i64 0,.func (.func 97) #[] #[.pointer (some ⟨gf,0,none⟩),.pointer (some ⟨gb,0,none⟩)]] w (TmGot w (fun k=>k<g0) (liftT fr by_ t)):=
 reb_Li (liftF fr by_) (RepLi gf gb fr by_) (fun k=>k<g0) g0 g1 h01 (fun _ h=>h) gf gb (fun W W' h hs=>⟨(hs gf hgf).trans h.fr,(hs gb hgb).trans h.by_⟩)
  (fun t p b w _ hb0 hb1 hg hin hR=>lift1_calls g0 g1 gf gb fr by_ t p b w h01 hgf hgb hg hb0 hb1 hf0 hby hin hR) _ t (Nat.lt_succ_self _) p 0 w (by omega) (by have:=hok.2;omega) hg1 hin hR
set_option maxRecDepth 100000 in
set_option maxHeartbeats 2000000 in
theorem tlift_calls (g0:Nat) (fr by_:Int) (t:Tm) (p:Pl) (w:World) (hok:okT t) (hg0:g0≤w.heap.size) (hf0:0≤fr) (hby:-1048576≤by_∧by_≤1048576) (hin:TmIn w g0 p t) :
  Calls Try.prog 62 #[tmV p t,.int .i64 fr,.int .i64 by_] w (TmGot w (fun k=>k<g0) (liftT fr by_ t)):=by
 obtain ⟨W,hW⟩:∃ W,W=(((w.alloc (tmO p t)).alloc (.cells #[.int .i64 fr] 3 (0,0))).alloc (.cells #[.int .i64 by_] 3 (0,0))).alloc (outK 0 (.slice none 0 0)):=⟨_,rfl⟩
 have hb:Below w.heap.size w W:=by rw [hW];exact below_alloc (below_alloc (below_alloc (below_alloc (Below.refl _ _) _) _) _) _
 have HX:=Ak (show W.heap[w.heap.size]?=some (tmO p t) by rw [hW];exact blk_alloc (blk_alloc (box0 w _ _) _) _)
 have HR:=Ak (show RepLi (w.heap.size+1) (w.heap.size+1+1) fr by_ W by
  rw [hW]
  refine ⟨blk_alloc (blk_alloc (box1 w _ _) _) _,blk_alloc ?_ _⟩
  have:=blk_new ((w.alloc (tmO p t)).alloc (.cells #[.int .i64 fr] 3 (0,0))) (.cells #[.int .i64 by_] 3 (0,0))
  simpa using this)
 have hXR:W.heap[w.heap.size+1+1+1]?=some (outK 0 (.slice none 0 0)):=by
  rw [hW]
  have:=blk_new (((w.alloc (tmO p t)).alloc (.cells #[.int .i64 fr] 3 (0,0))).alloc (.cells #[.int .i64 by_] 3 (0,0))) (outK 0 (.slice none 0 0))
  simpa using this
 have HXR:=Ak hXR
 have HZ:=Ak (blk_lt hXR)
 have HB:=Ak hb
 have HIN:=Ak (TmIn.stay hin (hb.mono hg0))
 have HOK:=Ak hok
 obtain ⟨y,hy⟩:∃ y,y=liftT fr by_ t:=⟨_,rfl⟩
 have HY:=Ak hy
 rw [← hy]
 obtain ⟨hby0,hby1⟩:=hby
 clear hin hb hy hok hXR
 unfold tmV
 unfold tmO at hW
 go_enter Try.func62,Try.ntmps62
 go_upto_region 1 with (fail)
 rw [← hW]
 clear hW
 go_wp2_with (first
  | (refine wpList_load_row rfl 28 _ rfl (w.heap.size) rfl 28 _ (0,0) _ HX.out Try.underlying28 rfl (by kernel_rfl) ?_)
  | (go_at_call 60;go_must (refine (reb_lift g0 (w.heap.size+1+1+1) (w.heap.size+1) (w.heap.size+1+1) fr by_ t p W HOK.out (by omega) (by omega) (by omega) (by have:=HZ.out;omega) hf0 ⟨hby0,hby1⟩ HIN.out HR.out).mono ?_;rw [← HY.out];rintro e w3 ⟨q9,rfl,ht9,hb3⟩;have HT9:=Ak ht9;have hX13:=(hb3.block _ (blk_lt HXR.out)).trans HXR.out;have HX13:=Ak hX13;have HB3:=Ak (below_then HB.out HB.out.size hb3);obtain ⟨r0,r1,r2,r3,r4,r5,r6,r7,f0,f1,f2,f3,f4,f5,f6,f7⟩:=row8c hX13;clear ht9 hb3 hX13;unfold tmV)))
 refine bodyPost_ret (results_c rfl _ _ (w.heap.size+1+1+1) 28 #[.int .i64 y.kind,.int .i64 y.num,.string y.name,.int .i64 y.lv.kind,.int .i64 y.lv.num,.slice q9.A y.lv.kids.length q9.c,.slice q9.B y.ls.length q9.d,.slice q9.K y.kids.length q9.e] (0,0) _ rfl (set8 HX13.out) Try.underlying28 rfl (by kernel_rfl)) rfl ?_
 exact tm_ret (g:=w.heap.size+1+1+1) HT9.out (chg_set8 w3 (w.heap.size+1+1+1) (.int .i64 y.kind) (.int .i64 y.num) (.string y.name) (.int .i64 y.lv.kind) (.int .i64 y.lv.num) (.slice q9.A y.lv.kids.length q9.c) (.slice q9.B y.ls.length q9.d) (.slice q9.K y.kids.length q9.e)) hg0 (by omega) HZ.out HB3.out
def zeroT:Tm:=.mk 0 0 noName lv0 [] []
theorem TmS.zero (w:World) (S:Nat→Prop):TmS w S ⟨none,0,none,0,none,0⟩ zeroT:=TmS.flat (LvS.leaf _ _ _ _) (LvS.leaf _ _ _ _) _ _ _ ⟨by decide,by decide,by simp⟩
end Go.Proofs.Ytdboloabpjmgaaa

namespace Go.Proofs.Ytdboloabpjmgaaa
open Go.RowKit Go.Proofs.YtdboloabpjmgaaaW.PrintWords Go.RegionInvYtdboloabpjmgaaa Go.RegionEYtdboloabpjmgaaa

def hitB (t:Tm) (b:Int):Bool:=decide (t.kind=1∧t.num=b)
def plF (sz:Int) (t:Tm) (_ b:Int) (n:Int):Bool × Int:=(decide (0<sz),if hitB t b=true then wrap64 (n+1) else n)
def RepPl (g1 g2:Nat) (sz:Int) (n:Int) (w:World):Prop:=NumAt w g1 n∧NumAt w g2 sz
set_option maxHeartbeats 2000000 in
theorem inst1_calls (t:Tm) (p:Pl) (d b sz n:Int) (w:World) (g1 g2:Nat) (hne:g1≠g2) (hR:RepPl g1 g2 sz n w) :
  Calls Try.prog 59 #[tmV p t,.int .i64 d,.int .i64 b,.pointer (some ⟨g1,0,none⟩),.pointer (some ⟨g2,0,none⟩)] w (FoldPost (RepPl g1 g2 sz) (fun k=>k=g1) w (plF sz t d b n)):=by
 obtain ⟨h1,h2⟩:=hR
 obtain ⟨W,hW⟩:∃ W,W=w.alloc (tmO p t):=⟨_,rfl⟩
 have HX:=Ak (show W.heap[w.heap.size]?=some (tmO p t) by rw [hW];exact blk_new _ _)
 have HC:=Ak (show Chg (fun k=>k=g1) w W by rw [hW];exact chg_alloc _ _ _)
 have H1:=Ak (show NumAt W g1 n by rw [hW];exact h1.alloc _)
 have H2:=Ak (show NumAt W g2 sz by rw [hW];exact h2.alloc _)
 clear h1 h2
 unfold tmV
 unfold tmO at hW
 go_enter Try.func59,Try.ntmps59
 go_upto_region 1 with (fail)
 rw [← hW]
 clear hW
 have c1:=H1.out.cell
 have c2:=H2.out.cell
 have f1:=blk_frozen H1.out 0
 have z1:=blk_lt H1.out
 obtain ⟨o0,o1,o2,o3,o4,o5,o6,o7⟩:=row8 HX.out
 have hne':g2≠g1:=fun e=>hne e.symm
 by_cases k1:t.kind=1
 ·have e1:(t.kind == 1)=true:=by simp [k1]
  by_cases k2:t.num=b
  ·have e2:(t.num == b)=true:=by simp [k2]
   have HH:=Ak (show plF sz t d b n=(decide (0<sz),wrap64 (n+1)) by unfold plF;rw [if_pos (by unfold hitB;exact decide_eq_true ⟨k1,k2⟩)])
   clear k1 k2
   go_wp2
   go_ret
   rw [HH.out]
   have hc:=chg_set W g1 0 (.int .i64 (wrap64 (n+1)))
   exact ⟨rfl,⟨H1.out.set _,(hc.block g2 (blk_lt H2.out) hne').trans H2.out⟩,chg_trans HC.out hc⟩
  ·have e2:(t.num == b)=false:=by simp [k2]
   have HH:=Ak (show plF sz t d b n=(decide (0<sz),n) by unfold plF;rw [if_neg (by unfold hitB;simp [k2])])
   clear k1 k2
   go_wp2
   go_ret
   rw [HH.out]
   exact ⟨rfl,⟨H1.out,H2.out⟩,HC.out⟩
 ·have e1:(t.kind == 1)=false:=by simp [k1]
  have HH:=Ak (show plF sz t d b n=(decide (0<sz),n) by unfold plF;rw [if_neg (by unfold hitB;simp [k1])])
  clear k1
  go_wp2
  go_ret
  rw [HH.out]
  exact ⟨rfl,⟨H1.out,H2.out⟩,HC.out⟩
theorem foldPl_calls (t:Tm) (p:Pl) (B g1 g2:Nat) (sz:Int) (w:World) (hne:g1≠g2) (h1:B≤g1) (h2:B≤g2) (hin:TmIn w B p t) (hn1:NumAt w g1 0) (hn2:NumAt w g2 sz) (hok:0<sz→okT t) :
  Calls Try.prog 58 #[tmV p t,.int .i64 1,.int .i64 0,vfPl g1 g2] w (FoldPost (RepPl g1 g2 sz) (fun k=>k=g1∨k=g2) w (foldP (plF sz) t 1 0 0)):=
 fold_Pl (plF sz) (RepPl g1 g2 sz) (fun _=>True) (fun t d=>(0≤d∧d≤2001)∧(0<sz→d+depthT t≤2001)) (fun k=>k=g1∨k=g2) B (max g1 g2+1) g1 g2 (fun k h=>by omega) (by omega)
  (fun s W W' h hs=>⟨(hs g1 (.inl rfl)).trans h.1,(hs g2 (.inr rfl)).trans h.2⟩)
  (fun t p d b s w hP _ _ hI _ _ hR=>(inst1_calls t p d b sz s w g1 g2 hne hR).mono fun e w' h=>⟨h.1,h.2.1,h.2.2.mono fun k h=>.inl h⟩)
  (fun t d b s hP hI h=>⟨trivial,fun i=>by have h:=of_decide_eq_true h;have:=hP.2 h;have:=depth_kid t i;have:=depth_pos (kidF t i);exact ⟨by omega,fun _=>by omega⟩⟩)
  (fun t d h=>by omega) _ t (Nat.lt_succ_self _) p 1 0 0 w ⟨by omega,fun h=>by have:=(hok h).2;omega⟩ (by omega) (by omega) trivial (by have:=blk_lt hn1;have:=blk_lt hn2;omega) hin ⟨hn1,hn2⟩
def occT (t:Tm) (b:Int):Nat:=(if hitB t b=true then 1 else 0)+((List.finRange (nK t)).map fun i=>occT (kidF t i) (b+moreZ t i)).sum
termination_by SizeOf.sizeOf t
decreasing_by exact kidF_lt t i
def occK (t:Tm) (b:Int) (xs:List (Fin (nK t))):Nat:=(xs.map fun i=>occT (kidF t i) (b+moreZ t i)).sum
theorem occ_eq (t:Tm) (b:Int):occT t b=(if hitB t b=true then 1 else 0)+occK t b (List.finRange (nK t)):=by rw [occT];rfl
theorem pl_val (sz:Int) (hsz:0<sz) (N:Nat):∀ (t:Tm),SizeOf.sizeOf t<N→∀ (d b n:Int),0≤n→n+sizeT t≤1000000→foldP (plF sz) t d b n=(true,n+occT t b)∧occT t b≤sizeT t:=by
 induction N with
 | zero=>intro t h;omega
 | succ N ih =>
  intro t hN d b n h0 hn
  have h1:(plF sz t d b n).1=true:=decide_eq_true hsz
  rw [foldP_go h1]
  have key:∀ (xs:List (Fin (nK t))) (n:Int),0≤n→n+sumK t xs≤1000000→runL (fun (i:Fin (nK t)) s=>foldP (plF sz) (kidF t i) (d+1) (b+moreZ t i) s) xs n=(true,n+occK t b xs)∧occK t b xs≤sumK t xs:=by
   intro xs
   induction xs with
   | nil=>intro n _ _;simp [runL,occK,sumK]
   | cons x r ihr =>
    intro n h0 hm
    have e1:sumK t (x :: r)=sizeT (kidF t x)+sumK t r:=by unfold sumK;rw [List.map_cons,List.sum_cons]
    have e2:occK t b (x :: r)=occT (kidF t x) (b+moreZ t x)+occK t b r:=by unfold occK;rw [List.map_cons,List.sum_cons]
    rw [e1] at hm
    push_cast at hm
    have h4:=ih (kidF t x) (by have:=kidF_lt t x;omega) (d+1) (b+moreZ t x) n h0 (by omega)
    have h5:=ihr (n+occT (kidF t x) (b+moreZ t x)) (by omega) (by omega)
    rw [runL,h4.1,if_pos rfl,h5.1,e1,e2]
    refine ⟨?_,by omega⟩
    simp only [Prod.mk.injEq,true_and]
    push_cast
    omega
  rw [size_eq] at hn
  push_cast at hn
  have hk:=key (List.finRange (nK t)) (plF sz t d b n).2 (by unfold plF;simp only;split <;> (try unfold wrap64) <;> omega) (by unfold plF;simp only;split <;> (try unfold wrap64) <;> omega)
  rw [hk.1,occ_eq,size_eq]
  refine ⟨?_,by split <;> omega⟩
  simp only [Prod.mk.injEq,true_and]
  unfold plF
  simp only
  split
  ·unfold wrap64;push_cast;omega
  ·push_cast;omega
end Go.Proofs.Ytdboloabpjmgaaa

namespace Go.Proofs.Ytdboloabpjmgaaa
open Go.RowKit Go.Proofs.YtdboloabpjmgaaaW.PrintWords Go.RegionInvYtdboloabpjmgaaa Go.RegionEYtdboloabpjmgaaa

def instF (v t:Tm) (b:Int):Tm:=if hitB t b=true then liftT 0 b v else if t.kind=1∧b<t.num then varT (t.num - 1) else nodeP t
theorem instF_hit {v t:Tm} {b:Int} (h:t.kind=1) (h2:t.num=b):instF v t b=liftT 0 b v:=if_pos (decide_eq_true ⟨h,h2⟩)
theorem instF_far {v t:Tm} {b:Int} (h:t.kind=1) (h2:b<t.num):instF v t b=varT (t.num - 1):=by unfold instF hitB;rw [if_neg (by simp;omega),if_pos ⟨h,h2⟩]
theorem instF_near {v t:Tm} {b:Int} (h2:t.num<b):instF v t b=nodeP t:=by unfold instF hitB;rw [if_neg (by simp;omega),if_neg (by omega)]
theorem instF_no {v t:Tm} {b:Int} (h:¬ t.kind=1):instF v t b=nodeP t:=by unfold instF hitB;rw [if_neg (by simp [h]),if_neg (fun k=>h k.1)]
structure RepIs (g0 gv:Nat) (pv:Pl) (v:Tm) (w:World):Prop where
 box:w.heap[gv]?=some (tmO pv v)
 parts:TmIn w g0 pv v
theorem TmGot.as {w:World} {S:Nat→Prop} {y z:Tm} {f:FuncId} {args:Array Value} (hc:Calls Try.prog f args w (TmGot w S y)) (h:y=z):Calls Try.prog f args w (TmGot w S z):=h ▸ hc
set_option maxRecDepth 100000 in
set_option maxHeartbeats 2000000 in
theorem inst2_calls (g0 g1 gv:Nat) (v:Tm) (pv:Pl) (t:Tm) (p:Pl) (b:Int) (w:World) (h01:g0≤g1) (hgv:gv<g1) (hg1:g1≤w.heap.size) (hb0:0≤b) (hb1:b≤1000000) (hokv:okT v) (hin:TmIn w g0 p t) (hR:RepIs g0 gv pv v w) :
  Calls Try.prog 61 #[tmV p t,.int .i64 b,.pointer (some ⟨gv,0,none⟩)] w (TmGot w (fun k=>k<g0) (instF v t b)):=by
 have hg0:g0≤w.heap.size:=Nat.le_trans h01 hg1
 have hnr:=hin.fit.1
 obtain ⟨hn0,hn1⟩:=hnr
 have HOKV:=Ak hokv
 obtain ⟨W,hW⟩:∃ W,W=(w.alloc (tmO p t)).alloc (outK 0 (.slice none 0 0)):=⟨_,rfl⟩
 have hb:Below w.heap.size w W:=by rw [hW];exact below_alloc (below_alloc (Below.refl _ _) _) _
 have HX:=Ak (show W.heap[w.heap.size]?=some (tmO p t) by rw [hW];exact box0 w _ _)
 have HX1:=Ak (show W.heap[w.heap.size+1]?=some (outK 0 (.slice none 0 0)) by rw [hW];exact box1 w _ _)
 have HZ:=Ak (show W.heap.size=w.heap.size+1+1 by rw [hW];simp)
 have HB:=Ak hb
 have HIN:=Ak (TmIn.stay hin (hb.mono hg0))
 have HV:=Ak ((hb.block gv (by omega)).trans hR.box)
 have HVI:=Ak (TmIn.stay hR.parts (hb.mono hg0))
 obtain ⟨z,hz⟩:∃ z,z=instF v t b:=⟨_,rfl⟩
 have HZZ:=Ak hz
 rw [← hz]
 clear hin hb hz hR hokv
 unfold tmV
 unfold tmO at hW
 go_enter Try.func61,Try.ntmps61
 go_upto_block 0 with (fail)
 rw [← hW]
 clear hW
 obtain ⟨c0,c1,c2,c3,c4,c5,c6,c7⟩:=row8 HX.out
 by_cases k1:t.kind=1
 ·have e1:(t.kind == 1)=true:=by simp [k1]
  have K1:=Ak k1
  clear k1
  by_cases k2:t.num=b
  ·have HZA:=Ak (show liftT 0 b v=z from ((HZZ.out).trans (instF_hit K1.out k2)).symm)
   have e2:(t.num == b)=true:=by simp [k2]
   clear k2
   go_wp2_with (first
    | (refine wpList_load_row rfl 28 _ rfl (gv) rfl 28 _ (0,0) _ HV.out Try.underlying28 rfl (by kernel_rfl) ?_)
    | (go_at_call 62;go_must (refine (TmGot.as (tlift_calls g0 0 b v pv W HOKV.out (Nat.le_trans hg0 HB.out.size) (by omega) (by omega) HVI.out) HZA.out).mono ?_;rintro e w3 ⟨q9,rfl,ht9,hb3⟩;have HT9:=Ak ht9;have hX13:=(hb3.block _ (blk_lt HX1.out)).trans HX1.out;have HX13:=Ak hX13;have HB3:=Ak (below_then HB.out HB.out.size hb3);obtain ⟨r0,r1,r2,r3,r4,r5,r6,r7,f0,f1,f2,f3,f4,f5,f6,f7⟩:=row8c hX13;clear ht9 hb3 hX13;unfold tmV)))
   refine bodyPost_ret (results_c rfl _ _ (w.heap.size+1) 28 #[.int .i64 z.kind,.int .i64 z.num,.string z.name,.int .i64 z.lv.kind,.int .i64 z.lv.num,.slice q9.A z.lv.kids.length q9.c,.slice q9.B z.ls.length q9.d,.slice q9.K z.kids.length q9.e] (0,0) _ rfl (set8 HX13.out) Try.underlying28 rfl (by kernel_rfl)) rfl ?_
   exact tm_ret (g:=w.heap.size+1) HT9.out (chg_set8 w3 (w.heap.size+1) (.int .i64 z.kind) (.int .i64 z.num) (.string z.name) (.int .i64 z.lv.kind) (.int .i64 z.lv.num) (.slice q9.A z.lv.kids.length q9.c) (.slice q9.B z.ls.length q9.d) (.slice q9.K z.kids.length q9.e)) hg0 (by omega) (by have:=HZ.out;omega) HB3.out
  ·have e2:(t.num == b)=false:=by simp [k2]
   by_cases k3:b<t.num
   ·have HZA:=Ak (show varT (t.num - 1)=z from ((HZZ.out).trans (instF_far K1.out k3)).symm)
    clear k2
    go_wp2_with (go_at_call 14;go_must (refine (TmGot.as (tvar_calls g0 (t.num - 1) W (by omega)) HZA.out).mono ?_;rintro e w3 ⟨q9,rfl,ht9,hb3⟩;have HT9:=Ak ht9;have hX13:=(hb3.block _ (blk_lt HX1.out)).trans HX1.out;have HX13:=Ak hX13;have HB3:=Ak (below_then HB.out HB.out.size hb3);obtain ⟨r0,r1,r2,r3,r4,r5,r6,r7,f0,f1,f2,f3,f4,f5,f6,f7⟩:=row8c hX13;clear ht9 hb3 hX13;unfold tmV))
    refine bodyPost_ret (results_c rfl _ _ (w.heap.size+1) 28 #[.int .i64 z.kind,.int .i64 z.num,.string z.name,.int .i64 z.lv.kind,.int .i64 z.lv.num,.slice q9.A z.lv.kids.length q9.c,.slice q9.B z.ls.length q9.d,.slice q9.K z.kids.length q9.e] (0,0) _ rfl (set8 HX13.out) Try.underlying28 rfl (by kernel_rfl)) rfl ?_
    exact tm_ret (g:=w.heap.size+1) HT9.out (chg_set8 w3 (w.heap.size+1) (.int .i64 z.kind) (.int .i64 z.num) (.string z.name) (.int .i64 z.lv.kind) (.int .i64 z.lv.num) (.slice q9.A z.lv.kids.length q9.c) (.slice q9.B z.ls.length q9.d) (.slice q9.K z.kids.length q9.e)) hg0 (by omega) (by have:=HZ.out;omega) HB3.out
   ·have HZA:=Ak (show nodeP t=z from ((HZZ.out).trans (instF_near (by omega))).symm)
    clear k2
    go_wp2_with (first
     | (refine wpList_load_row rfl 28 _ rfl (w.heap.size) rfl 28 _ (0,0) _ HX.out Try.underlying28 rfl (by kernel_rfl) ?_)
     | (go_at_call 63;go_must (refine (TmGot.as (node_calls (fun k=>k<g0) t p W HIN.out) HZA.out).mono ?_;rintro e w3 ⟨q9,rfl,ht9,hb3⟩;have HT9:=Ak ht9;have hX13:=(hb3.block _ (blk_lt HX1.out)).trans HX1.out;have HX13:=Ak hX13;have HB3:=Ak (below_then HB.out HB.out.size hb3);obtain ⟨r0,r1,r2,r3,r4,r5,r6,r7,f0,f1,f2,f3,f4,f5,f6,f7⟩:=row8c hX13;clear ht9 hb3 hX13;unfold tmV)))
    refine bodyPost_ret (results_c rfl _ _ (w.heap.size+1) 28 #[.int .i64 z.kind,.int .i64 z.num,.string z.name,.int .i64 z.lv.kind,.int .i64 z.lv.num,.slice q9.A z.lv.kids.length q9.c,.slice q9.B z.ls.length q9.d,.slice q9.K z.kids.length q9.e] (0,0) _ rfl (set8 HX13.out) Try.underlying28 rfl (by kernel_rfl)) rfl ?_
    exact tm_ret (g:=w.heap.size+1) HT9.out (chg_set8 w3 (w.heap.size+1) (.int .i64 z.kind) (.int .i64 z.num) (.string z.name) (.int .i64 z.lv.kind) (.int .i64 z.lv.num) (.slice q9.A z.lv.kids.length q9.c) (.slice q9.B z.ls.length q9.d) (.slice q9.K z.kids.length q9.e)) hg0 (by omega) (by have:=HZ.out;omega) HB3.out
 ·have e1:(t.kind == 1)=false:=by simp [k1]
  have HZA:=Ak (show nodeP t=z from ((HZZ.out).trans (instF_no k1)).symm)
  clear k1
  go_wp2_with (first
   | (refine wpList_load_row rfl 28 _ rfl (w.heap.size) rfl 28 _ (0,0) _ HX.out Try.underlying28 rfl (by kernel_rfl) ?_)
   | (go_at_call 63;go_must (refine (TmGot.as (node_calls (fun k=>k<g0) t p W HIN.out) HZA.out).mono ?_;rintro e w3 ⟨q9,rfl,ht9,hb3⟩;have HT9:=Ak ht9;have hX13:=(hb3.block _ (blk_lt HX1.out)).trans HX1.out;have HX13:=Ak hX13;have HB3:=Ak (below_then HB.out HB.out.size hb3);obtain ⟨r0,r1,r2,r3,r4,r5,r6,r7,f0,f1,f2,f3,f4,f5,f6,f7⟩:=row8c hX13;clear ht9 hb3 hX13;unfold tmV)))
  refine bodyPost_ret (results_c rfl _ _ (w.heap.size+1) 28 #[.int .i64 z.kind,.int .i64 z.num,.string z.name,.int .i64 z.lv.kind,.int .i64 z.lv.num,.slice q9.A z.lv.kids.length q9.c,.slice q9.B z.ls.length q9.d,.slice q9.K z.kids.length q9.e] (0,0) _ rfl (set8 HX13.out) Try.underlying28 rfl (by kernel_rfl)) rfl ?_
  exact tm_ret (g:=w.heap.size+1) HT9.out (chg_set8 w3 (w.heap.size+1) (.int .i64 z.kind) (.int .i64 z.num) (.string z.name) (.int .i64 z.lv.kind) (.int .i64 z.lv.num) (.slice q9.A z.lv.kids.length q9.c) (.slice q9.B z.ls.length q9.d) (.slice q9.K z.kids.length q9.e)) hg0 (by omega) (by have:=HZ.out;omega) HB3.out

def fitT (t:Tm):Tm:=if okT t then t else zeroT
theorem fitT_ok {t:Tm} (h:okT t):fitT t=t:=if_pos h
theorem fitT_no {t:Tm} (h:¬ okT t):fitT t=zeroT:=if_neg h
def instS (t v:Tm):Int:=(sizeT t:Int)+(occT t 0:Int) * ((sizeT v:Int) - 1)
def InstT (t v:Tm):Tm:=if okT t∧okT v∧instS t v≤20000 then fitT (rebP (instF v) t 0) else zeroT
theorem InstT_ok {t v:Tm} (h:okT t) (h2:okT v) (h3:instS t v≤20000):InstT t v=fitT (rebP (instF v) t 0):=if_pos ⟨h,h2,h3⟩
theorem InstT_no {t v:Tm} (h:¬ (okT t∧okT v∧instS t v≤20000)):InstT t v=zeroT:=if_neg h
theorem reb_inst (g0 g1 gv:Nat) (v:Tm) (pv:Pl) (t:Tm) (p:Pl) (w:World) (hok:okT t) (hokv:okT v) (h01:g0≤g1) (hgv:gv<g1) (hg1:g1≤w.heap.size) (hin:TmIn w g0 p t) (hR:RepIs g0 gv pv v w) :
  Calls Try.prog 60 #[tmV p t,.int .i64 0,.func (.func 61) #[] #[.pointer (some ⟨gv,0,none⟩)]] w (TmGot w (fun k=>k<g0) (rebP (instF v) t 0)):=
 reb_Is (instF v) (RepIs g0 gv pv v) (fun k=>k<g0) g0 g1 h01 (fun _ h=>h) gv (fun W W' h hs=>⟨(hs gv hgv).trans h.box,h.parts.same fun k hk _=>hs k (Nat.lt_of_lt_of_le hk h01)⟩)
  (fun t p b w _ hb0 hb1 hg hin hR=>inst2_calls g0 g1 gv v pv t p b w h01 hgv hg hb0 hb1 hokv hin hR) _ t (Nat.lt_succ_self _) p 0 w (by omega) (by have:=hok.2;omega) hg1 hin hR
structure InsB (w W:World) (g0:Nat) (p pv:Pl) (t v:Tm):Prop where
 bt:W.heap[w.heap.size]?=some (tmO p t)
 bv:W.heap[w.heap.size+1]?=some (tmO pv v)
 br:W.heap[w.heap.size+1+1]?=some (outK 0 (.slice none 0 0))
 bel:Below w.heap.size w W
 it:TmIn W g0 p t
 iv:TmIn W g0 pv v
theorem InsB.far {w W W':World} {g0:Nat} {p pv:Pl} {t v:Tm} (h:InsB w W g0 p pv t v) (hg0:g0≤w.heap.size) (hb:Below (w.heap.size+3) W W'):InsB w W' g0 p pv t v:=
 ⟨(hb.block _ (by omega)).trans h.bt,(hb.block _ (by omega)).trans h.bv,(hb.block _ (by omega)).trans h.br,Below.trans h.bel (hb.mono (by omega)),h.it.stay (hb.mono (by omega)),h.iv.stay (hb.mono (by omega))⟩
set_option maxRecDepth 100000 in
set_option maxHeartbeats 4000000 in
theorem Inst_calls (g0:Nat) (t v:Tm) (p pv:Pl) (w:World) (hg0:g0≤w.heap.size) (hin:TmIn w g0 p t) (hinv:TmIn w g0 pv v) :
  Calls Try.prog 17 #[tmV p t,tmV pv v] w (TmGot w (fun k=>k<g0) (InstT t v)):=by
 obtain ⟨W,hW⟩:∃ W,W=((w.alloc (tmO p t)).alloc (tmO pv v)).alloc (outK 0 (.slice none 0 0)):=⟨_,rfl⟩
 have hb:Below w.heap.size w W:=by rw [hW];exact below_alloc (below_alloc (below_alloc (Below.refl _ _) _) _) _
 have hXR:W.heap[w.heap.size+1+1]?=some (outK 0 (.slice none 0 0)):=by
  rw [hW]
  have:=blk_new ((w.alloc (tmO p t)).alloc (tmO pv v)) (outK 0 (.slice none 0 0))
  simpa using this
 have HS:=Ak (show InsB w W g0 p pv t v from ⟨by rw [hW];exact blk_alloc (box0 w _ _) _,by rw [hW];exact blk_alloc (box1 w _ _) _,hXR,hb,TmIn.stay hin (hb.mono hg0),TmIn.stay hinv (hb.mono hg0)⟩)
 have HZ:=Ak (blk_lt hXR)
 have HMT:=Ak (show ∀ h:okT t,measP t=((sizeT t:Int),(depthT t:Int)) from fun h=>meas_yes h)
 obtain ⟨z,hz⟩:∃ z,z=InstT t v:=⟨_,rfl⟩
 have HZZ:=Ak hz
 rw [← hz]
 clear hin hinv hb hz hXR
 unfold tmV
 unfold tmO at hW
 go_enter Try.func17,Try.ntmps17
 go_upto_region 1 with (fail)
 rw [← hW]
 clear hW
 obtain ⟨mt,hmt⟩:∃ x,measP t=x:=⟨_,rfl⟩
 obtain ⟨mv,hmv⟩:∃ x,measP v=x:=⟨_,rfl⟩
 obtain ⟨s1,d1⟩:=mt
 obtain ⟨s2,d2⟩:=mv
 have HM1:=Ak hmt
 have HM2:=Ak hmv
 clear hmt hmv
 go_upto_region 2 with (first
  | (refine wpList_load_row rfl 28 _ rfl (w.heap.size) rfl 28 _ (0,0) _ HS.out.bt Try.underlying28 rfl (by kernel_rfl) ?_)
  | (go_at_call 57;go_must (refine (measure_calls t p W (TmIn.mono HS.out.it (Nat.le_trans hg0 HS.out.bel.size))).mono ?_;rw [HM1.out];rintro e w1 ⟨rfl,hb⟩;dsimp only;have hz1:=hb.size;have HBW1:=Ak hb;clear hb)))
 obtain ⟨W1,hW1⟩:∃ W1,W1=w1.alloc (.cells #[.int .i64 s1] 3 (0,0)):=⟨_,rfl⟩
 have hz0:=HZ.out
 have HS1:=Ak (show InsB w W1 g0 p pv t v from HS.out.far hg0 (by rw [hW1];exact (below_alloc HBW1.out _).mono (by omega)))
 have HN1:=Ak (show NumAt W1 w1.heap.size s1 by rw [hW1];exact blk_new _ _)
 have hzz1:w1.heap.size<W1.heap.size:=blk_lt HN1.out
 rw [← hW1]
 clear hW1 HS HBW1
 go_upto_region 3 with (first
  | (refine wpList_load_row rfl 28 _ rfl (w.heap.size+1) rfl 28 _ (0,0) _ HS1.out.bv Try.underlying28 rfl (by kernel_rfl) ?_)
  | (go_at_call 57;go_must (refine (measure_calls v pv W1 (TmIn.mono HS1.out.iv (Nat.le_trans hg0 HS1.out.bel.size))).mono ?_;rw [HM2.out];rintro e w2 ⟨rfl,hb⟩;dsimp only;have hz2:=hb.size;have HBW2:=Ak hb;clear hb)))
 have HS2:=Ak (HS1.out.far hg0 (HBW2.out.mono (by omega)))
 have HN2:=Ak (show NumAt w2 w1.heap.size s1 from (HBW2.out.block _ hzz1).trans HN1.out)
 clear HS1 HN1
 go_upto_region 4 with (fail)
 obtain ⟨W3,hW3⟩:∃ W3,W3=w2.alloc (.cells #[.int .i64 0] 3 (0,0)):=⟨_,rfl⟩
 have hbw3:Below w2.heap.size w2 W3:=by rw [hW3];exact below_alloc (Below.refl _ _) _
 have HS3:=Ak (HS2.out.far hg0 (hbw3.mono (by omega)))
 have HN3:=Ak (show NumAt W3 w1.heap.size s1 from (hbw3.block _ (by omega)).trans HN2.out)
 have HP3:=Ak (show NumAt W3 w2.heap.size 0 by rw [hW3];exact blk_new _ _)
 have hzz3:w2.heap.size<W3.heap.size:=blk_lt HP3.out
 rw [← hW3]
 clear hW3 hbw3 HS2 HN2 HBW2
 have HOK:=Ak (show 0<s1→okT t from fun h=>Classical.byContradiction fun hn=>by have e:=HM1.out;rw [meas_no hn] at e;simp only [Prod.mk.injEq] at e;omega)
 obtain ⟨fb,fn,hf⟩:∃ fb fn,foldP (plF s1) t 1 0 0=(fb,fn):=⟨_,_,rfl⟩
 have HF:=Ak hf
 clear hf
 go_upto_region 5 with (first
  | (refine wpList_load_row rfl 28 _ rfl (w.heap.size) rfl 28 _ (0,0) _ HS3.out.bt Try.underlying28 rfl (by kernel_rfl) ?_)
  | (go_at_call 58;go_must (refine (foldPl_calls t p w.heap.size w2.heap.size w1.heap.size s1 W3 (by omega) (by omega) (by omega) (TmIn.mono HS3.out.it hg0) HP3.out HN3.out HOK.out).mono ?_;rintro e w4 ⟨rfl,hR,hC⟩;rw [HF.out] at hR;rw [HF.out];dsimp only at hR ⊢;have HR4:=Ak hR;have hz4:=hC.size;have HS4:=Ak (HS3.out.far hg0 (hC.below (fun k h=>by omega) (by omega)));clear hR hC)))
 clear HS3 HN3 HP3
 have c1:=HR4.out.1.cell
 have c2:=HR4.out.2.cell
 by_cases ht:okT t
 ·have hS:=HM1.out
  rw [meas_yes ht] at hS
  simp only [Prod.mk.injEq] at hS
  have hS1:=ht.1
  have hS0:=size_pos t
  have hpl:=pl_val s1 (by omega) _ t (Nat.lt_succ_self _) 1 0 0 (by omega) (by omega)
  rw [HF.out] at hpl
  have hfn:fn=(occT t 0:Int):=by have:=hpl.1;simp only [Prod.mk.injEq] at this;omega
  have hfn2:0≤fn∧fn≤20000:=by have:=hpl.2;omega
  have hs1:1≤s1∧s1≤20000:=by omega
  have hne1:(s1 == 0)=false:=by simp;omega
  have HS1E:=Ak (show s1=(sizeT t:Int) by omega)
  have HFN:=Ak hfn
  have HT:=Ak ht
  clear hS hpl hfn ht hS1 hS0
  by_cases hv:okT v
  ·have hS:=HM2.out
   rw [meas_yes hv] at hS
   simp only [Prod.mk.injEq] at hS
   have hS1:=hv.1
   have hS0:=size_pos v
   have hs2:1≤s2∧s2≤20000:=by omega
   have hne2:(s2 == 0)=false:=by simp;omega
   have HS2E:=Ak (show s2=(sizeT v:Int) by omega)
   have HVV:=Ak hv
   clear hS hv hS1 hS0
   have hpr:0≤fn * (s2 - 1)∧fn * (s2 - 1)≤400000000:=⟨Int.mul_nonneg hfn2.1 (by omega),Int.le_trans (Int.mul_le_mul hfn2.2 (show s2 - 1≤20000 by omega) (by omega) (by omega)) (by decide)⟩
   have HIS:=Ak (show instS t v=s1+fn * (s2 - 1) by unfold instS;rw [HS1E.out,HFN.out,HS2E.out])
   obtain ⟨hp0,hp1⟩:=hpr
   obtain ⟨hfn0,hfn1⟩:=hfn2
   obtain ⟨hs10,hs11⟩:=hs1
   obtain ⟨hs20,hs21⟩:=hs2
   by_cases hbig:20000<s1+fn * (s2 - 1)
   ·obtain rfl:zeroT=z:=(HZZ.out.trans (InstT_no (fun h=>by have:=h.2.2;rw [HIS.out] at this;omega))).symm
    go_upto_region 6 with (fail)
    obtain ⟨r0,r1,r2,r3,r4,r5,r6,r7,f0,f1,f2,f3,f4,f5,f6,f7⟩:=row8c HS4.out.br
    go_wp2
    refine bodyPost_ret (results_c rfl _ _ (w.heap.size+1+1) 28 #[.int .i64 0,.int .i64 0,.string ⟨#[]⟩,.int .i64 0,.int .i64 0,.slice none 0 0,.slice none 0 0,.slice none 0 0] (0,0) _ rfl (set8 HS4.out.br) Try.underlying28 rfl (by kernel_rfl)) rfl ?_
    exact tm_ret (g:=w.heap.size+1+1) (m:=w.heap.size+1+1+1) (TmS.zero w4 _) (chg_set8 w4 (w.heap.size+1+1) (.int .i64 0) (.int .i64 0) (.string ⟨#[]⟩) (.int .i64 0) (.int .i64 0) (.slice none 0 0) (.slice none 0 0) (.slice none 0 0)) hg0 (by omega) (by omega) HS4.out.bel
   ·have HZI:=Ak (HZZ.out.trans (InstT_ok HT.out HVV.out (by rw [HIS.out];omega)))
    obtain ⟨y,hy⟩:∃ y,y=rebP (instF v) t 0:=⟨_,rfl⟩
    have HY:=Ak hy
    rw [← hy] at HZI
    clear hy
    go_upto_region 8 with (first
     | (refine wpList_load_row rfl 28 _ rfl (w.heap.size) rfl 28 _ (0,0) _ HS4.out.bt Try.underlying28 rfl (by kernel_rfl) ?_)
     | (go_at_call 60;go_must (refine (TmGot.as (reb_inst g0 (w.heap.size+2) (w.heap.size+1) v pv t p w4 HT.out HVV.out (by omega) (by omega) (by omega) HS4.out.it ⟨HS4.out.bv,HS4.out.iv⟩) HY.out.symm).mono ?_;rintro e w5 ⟨q9,rfl,ht9,hb5⟩;have HT5:=Ak (TmS.mono (S':=fun k=>(k<g0∨w4.heap.size≤k)∧k<w5.heap.size) ht9 fun k h hz=>⟨h,hz⟩);have hz5:=hb5.size;have HS5:=Ak (HS4.out.far hg0 (hb5.mono (by omega)));clear ht9 hb5;unfold tmV)))
    clear HS4 HR4 c1 c2
    obtain ⟨W6,hW6⟩:∃ W6,W6=w5.alloc (tmO q9 y):=⟨_,rfl⟩
    have hb6:Below w5.heap.size w5 W6:=by rw [hW6];exact below_alloc (Below.refl _ _) _
    have HO6:=Ak (show W6.heap[w5.heap.size]?=some (tmO q9 y) by rw [hW6];exact blk_new _ _)
    have HS6:=Ak (HS5.out.far hg0 (hb6.mono (by omega)))
    have HT6:=Ak (HT5.out.later hb6)
    have hz6:=hb6.size
    have HGE:=Ak (great_eq y)
    unfold tmO at hW6
    rw [← hW6]
    clear hW6 hb6 HS5 HT5
    by_cases hk:okT y
    ·have HG:=Ak (show greatB y=false by rw [HGE.out];simp [hk])
     obtain rfl:y=z:=(HZI.out.trans (fitT_ok hk)).symm
     clear hk
     go_upto_region 10 with (first
      | (refine wpList_load_row rfl 28 _ rfl (w5.heap.size) rfl 28 _ (0,0) _ HO6.out Try.underlying28 rfl (by kernel_rfl) ?_)
      | (go_at_call 55;go_must (refine (great_calls y q9 W6 (TmS.all HT6.out)).mono ?_;rintro e w7 ⟨rfl,hb⟩;rw [HG.out];have HO7:=Ak ((hb.block _ (blk_lt HO6.out)).trans HO6.out);have HT7:=Ak (HT6.out.later hb);have HS7:=Ak (HS6.out.far hg0 (hb.mono (by omega)));clear hb)))
     obtain ⟨o0,o1,o2,o3,o4,o5,o6,o7⟩:=row8 HO7.out
     have hXR7:=HS7.out.br
     obtain ⟨r0,r1,r2,r3,r4,r5,r6,r7,f0,f1,f2,f3,f4,f5,f6,f7⟩:=row8c hXR7
     go_wp2
     refine bodyPost_ret (results_c rfl _ _ (w.heap.size+1+1) 28 #[.int .i64 y.kind,.int .i64 y.num,.string y.name,.int .i64 y.lv.kind,.int .i64 y.lv.num,.slice q9.A y.lv.kids.length q9.c,.slice q9.B y.ls.length q9.d,.slice q9.K y.kids.length q9.e] (0,0) _ rfl (set8 HS7.out.br) Try.underlying28 rfl (by kernel_rfl)) rfl ?_
     exact tm_ret (g:=w.heap.size+1+1) (m:=w4.heap.size) (TmS.mono HT7.out fun k h _=>h.1) (chg_set8 w7 (w.heap.size+1+1) (.int .i64 y.kind) (.int .i64 y.num) (.string y.name) (.int .i64 y.lv.kind) (.int .i64 y.lv.num) (.slice q9.A y.lv.kids.length q9.c) (.slice q9.B y.ls.length q9.d) (.slice q9.K y.kids.length q9.e)) hg0 (by omega) (by omega) HS7.out.bel
    ·have HG:=Ak (show greatB y=true by rw [HGE.out];simp [hk])
     obtain rfl:zeroT=z:=(HZI.out.trans (fitT_no hk)).symm
     clear hk
     go_upto_region 9 with (first
      | (refine wpList_load_row rfl 28 _ rfl (w5.heap.size) rfl 28 _ (0,0) _ HO6.out Try.underlying28 rfl (by kernel_rfl) ?_)
      | (go_at_call 55;go_must (refine (great_calls y q9 W6 (TmS.all HT6.out)).mono ?_;rintro e w7 ⟨rfl,hb⟩;rw [HG.out];have HS7:=Ak (HS6.out.far hg0 (hb.mono (by omega)));clear hb)))
     obtain ⟨r0,r1,r2,r3,r4,r5,r6,r7,f0,f1,f2,f3,f4,f5,f6,f7⟩:=row8c HS7.out.br
     go_wp2
     refine bodyPost_ret (results_c rfl _ _ (w.heap.size+1+1) 28 #[.int .i64 0,.int .i64 0,.string ⟨#[]⟩,.int .i64 0,.int .i64 0,.slice none 0 0,.slice none 0 0,.slice none 0 0] (0,0) _ rfl (set8 HS7.out.br) Try.underlying28 rfl (by kernel_rfl)) rfl ?_
     exact tm_ret (g:=w.heap.size+1+1) (m:=w.heap.size+1+1+1) (TmS.zero w7 _) (chg_set8 w7 (w.heap.size+1+1) (.int .i64 0) (.int .i64 0) (.string ⟨#[]⟩) (.int .i64 0) (.int .i64 0) (.slice none 0 0) (.slice none 0 0) (.slice none 0 0)) hg0 (by omega) (by omega) HS7.out.bel
  ·have hS:=HM2.out
   rw [meas_no hv] at hS
   simp only [Prod.mk.injEq] at hS
   have hne2:(s2 == 0)=true:=by simp;omega
   obtain rfl:zeroT=z:=(HZZ.out.trans (InstT_no (fun h=>hv h.2.1))).symm
   clear hS hv
   go_upto_region 6 with (fail)
   obtain ⟨r0,r1,r2,r3,r4,r5,r6,r7,f0,f1,f2,f3,f4,f5,f6,f7⟩:=row8c HS4.out.br
   go_wp2
   refine bodyPost_ret (results_c rfl _ _ (w.heap.size+1+1) 28 #[.int .i64 0,.int .i64 0,.string ⟨#[]⟩,.int .i64 0,.int .i64 0,.slice none 0 0,.slice none 0 0,.slice none 0 0] (0,0) _ rfl (set8 HS4.out.br) Try.underlying28 rfl (by kernel_rfl)) rfl ?_
   exact tm_ret (g:=w.heap.size+1+1) (m:=w.heap.size+1+1+1) (TmS.zero w4 _) (chg_set8 w4 (w.heap.size+1+1) (.int .i64 0) (.int .i64 0) (.string ⟨#[]⟩) (.int .i64 0) (.int .i64 0) (.slice none 0 0) (.slice none 0 0) (.slice none 0 0)) hg0 (by omega) (by omega) HS4.out.bel
 ·have hS:=HM1.out
  rw [meas_no ht] at hS
  simp only [Prod.mk.injEq] at hS
  have hne1:(s1 == 0)=true:=by simp;omega
  obtain rfl:zeroT=z:=(HZZ.out.trans (InstT_no (fun h=>ht h.1))).symm
  clear hS ht
  go_upto_region 6 with (fail)
  obtain ⟨r0,r1,r2,r3,r4,r5,r6,r7,f0,f1,f2,f3,f4,f5,f6,f7⟩:=row8c HS4.out.br
  go_wp2
  refine bodyPost_ret (results_c rfl _ _ (w.heap.size+1+1) 28 #[.int .i64 0,.int .i64 0,.string ⟨#[]⟩,.int .i64 0,.int .i64 0,.slice none 0 0,.slice none 0 0,.slice none 0 0] (0,0) _ rfl (set8 HS4.out.br) Try.underlying28 rfl (by kernel_rfl)) rfl ?_
  exact tm_ret (g:=w.heap.size+1+1) (m:=w.heap.size+1+1+1) (TmS.zero w4 _) (chg_set8 w4 (w.heap.size+1+1) (.int .i64 0) (.int .i64 0) (.string ⟨#[]⟩) (.int .i64 0) (.int .i64 0) (.slice none 0 0) (.slice none 0 0) (.slice none 0 0)) hg0 (by omega) (by omega) HS4.out.bel

end Go.Proofs.Ytdboloabpjmgaaa

namespace Go.Proofs.Ytdboloabpjmgaaa
open Go.RowKit Go.Proofs.YtdboloabpjmgaaaW.PrintWords Go.RegionInvYtdboloabpjmgaaa Go.RegionEYtdboloabpjmgaaa

def TmLit (T:Nat→Prop) (t:Tm) (v:Value) (w:World) (O:Nat→Prop):Prop:=
 ∃ p q,v=.slice (some ⟨p,0,none⟩) 1 1∧w.heap[p]?=some (.cells (tmC q t).toArray 28 (0,0))∧O p∧TmS w (fun k=>T k∨(O k∧k≠p)) q t
theorem stableE_tmlit {w0:World} {E:Nat→Nat→Prop} {T:Nat→Prop} {t:Tm} (hT:∀ k,T k→Fix w0 E k):StableE w0 E (TmLit T t):=by
 rintro v w w' O ⟨p,q,e,hp,hO,h⟩ hz hk
 exact ⟨p,q,e,(hk p (blk_lt hp) (.inr hO)).trans hp,hO,h.same fun k hk' hz'=>hk k hz' (hk'.imp (hT k) And.left)⟩
theorem stableE_rowv {w0:World} {E:Nat→Nat→Prop} {T:Nat→Prop} {lo n:Nat} {cells:List Value} {t:Tm} (hT:∀ k,T k→Fix w0 E k):StableE w0 E (fun v w O=>RowT T lo n cells t v w O):=by
 rintro v w w' O ⟨q,ho,hO,h⟩ hz hk
 exact ⟨q,ownsRow_same ho fun k hk'=>hk k (own_lt ho k hk') (.inr (hO k hk')),hO,h.same fun k hk' hz'=>hk k hz' (hk'.imp (hT k) And.left)⟩
section
variable {ops:Array Oper} {Q:Exit→Act→World→Prop} {R:Nat→Prop} {a:Act} {w:World} {o:Oper} {T:Nat→Prop}
theorem obE_tmLit {t:Tm} {O2:Nat→Prop} {x:Operand} (hw:Region.wanted o (yielded ops a.tmps)=true)
  (hr:∀ q,a.eval x=tmV q t→(execOp a.eval o).run Try.prog w=.ok (.value (.slice (some ⟨w.heap.size,0,none⟩) 1 1)) (w.alloc (.cells (tmC q t).toArray 28 (0,0))))
  (h2:TmO T t (a.eval x) w O2) (hR2:∀ k,O2 k→R k) (hz2:∀ k,O2 k→k<w.heap.size) (hTz:∀ k,T k→k<w.heap.size):OwesE Try.prog ops Q R (TmLit T t) o a w:=by
 obtain ⟨q,hy,ht⟩:=h2
 refine obE_res (fun k=>O2 k∨k=w.heap.size) hw (hr q hy) (Chg.of_below ((Below.refl _ _).alloc (Nat.le_refl _) _)) ⟨_,q,rfl,blk_new _ _,.inr rfl,?_⟩ (fun k h=>h.elim (fun h=>.inl (hR2 k h)) fun h=>.inr ⟨by omega,by simp;omega⟩)
 exact (ht.later ((Below.refl _ _).alloc (Nat.le_refl _) _)).mono fun k h _=>h.imp id fun h=>⟨.inl h,by have:=hz2 k h;omega⟩
theorem obE_tmPush {t:Tm} {O2:Nat→Prop} {x y:Operand} {ty:TypeId} {lo n c:Nat} {A:Option Addr} {cells:List Value} (_:ty=26) (ho:o.op=.call { callee:=.builtin .append,args:=#[x,y],argTypes:=#[26,26] }) (hw:Region.wanted o (yielded ops a.tmps)=true)
  (hx:a.eval x=.slice A n c) (hV:w.ownsRow lo 28 8 (.slice A n c) n cells) (hRV:∀ k,(Value.slice A n c).ownBlock=some k→R k) (hn:n≤1000000) (hlz:lo≤w.heap.size)
  (h2:TmLit T t (a.eval y) w O2) (hR2:∀ k,O2 k→R k) (hz2:∀ k,O2 k→k<w.heap.size) (hV2:∀ k,(Value.slice A n c).ownBlock=some k→¬ O2 k) (hTV:∀ k,T k→k<lo) :
  OwesE Try.prog ops Q R (fun v w O=>RowT T lo n cells t v w O) o a w:=by
 obtain ⟨p,q,hy,hp,hOp,ht⟩:=h2
 refine obE_list hw ?_
 refine print_append_at lo rfl x y 26 28 _ 8 120 ho Try.underlying26 infoTm rfl (by decide) (by decide) (.slice A n c) n cells (tmC q t) hx hy hp rfl (List.all_eq_true.1 rfl) hV (by omega) hlz ?_
 intro v1 w1 ho1 hg hat
 have hG:=Grew.of_append hg hat
 have hone:∀ k,v1.ownBlock=some k→(Value.slice A n c).ownBlock=some k∨w.heap.size≤k:=hG.2
 refine ⟨rfl,v1,fun k=>v1.ownBlock=some k∨O2 k,rfl,⟨q,ho1,fun k h=>.inl h,?_⟩,hG.1.mono fun k hk=>hRV k hk,fun k hk=>?_⟩
 ·have h1:TmS w (fun k=>(T k∨(O2 k∧k≠p))∧k<w.heap.size) q t:=ht.mono fun k h hz=>⟨h,hz⟩
  refine (h1.same fun k hk hz=>hG.1.block k hz fun e=>?_).mono fun k hk _=>hk.1.imp id fun h=>⟨.inr h.1,fun e=>?_⟩
  ·rcases hk.1 with h | h
   ·have:=own_base hV k e;have:=hTV k h;omega
   ·exact hV2 k e h.1
  ·rcases hone k e with e | e
   ·exact hV2 k e h.1
   ·omega
 ·rcases hk with hk | hk
  ·rcases hone k hk with e | e
   ·exact .inl (hRV k e)
   ·exact .inr ⟨e,own_lt ho1 k hk⟩
  ·exact .inl (hR2 k hk)
end
end Go.Proofs.Ytdboloabpjmgaaa

namespace Go.Proofs.Ytdboloabpjmgaaa
open Go.RowKit Go.Proofs.YtdboloabpjmgaaaW.PrintWords Go.RegionInvYtdboloabpjmgaaa Go.RegionEYtdboloabpjmgaaa
set_option linter.unusedVariables false

def md_ops:List Oper:=[
 { dst:=some 16,op:=Go.Op.fieldAddr 28 (Go.Operand.tmp 5) 5,type:=0,pos:= "term.go:131",after:=#[],guard:=none },
 { dst:=some 17,op:=Go.Op.load 26 (Go.Operand.tmp 16),type:=26,pos:= "term.go:131",after:=#[{ on:=0,ground:=Go.Ground.data }],guard:=none },
 { dst:=some 18,op:=Go.Op.load 28 (Go.Operand.tmp 7),type:=28,pos:= "term.go:131",after:=#[],guard:=none },
 { dst:=some 19,op:=Go.Op.call { callee:=Go.Callee.value (Go.Operand.func 56),args:=#[Go.Operand.tmp 18],argTypes:=#[28] },type:=28,pos:= "term.go:131",after:=#[{ on:=2,ground:=Go.Ground.data }],guard:=none },
 { dst:=some 20,op:=Go.Op.buildSlice 26 1 #[(0,Go.Operand.tmp 19)],type:=26,pos:= "term.go:131",after:=#[{ on:=3,ground:=Go.Ground.data }],guard:=none },
 { dst:=some 21,op:=Go.Op.call { callee:=Go.Callee.builtin Go.Builtin.append,args:=#[Go.Operand.tmp 17,Go.Operand.tmp 20],argTypes:=#[26,26] },type:=26,pos:= "term.go:131",after:=#[{ on:=1,ground:=Go.Ground.data },{ on:=4,ground:=Go.Ground.data },{ on:=3,ground:=Go.Ground.chain }],guard:=none },
 { dst:=some 22,op:=Go.Op.fieldAddr 28 (Go.Operand.tmp 5) 5,type:=0,pos:= "term.go:131",after:=#[{ on:=0,ground:=Go.Ground.phase },{ on:=1,ground:=Go.Ground.phase },{ on:=2,ground:=Go.Ground.phase },{ on:=3,ground:=Go.Ground.phase },{ on:=4,ground:=Go.Ground.phase },{ on:=5,ground:=Go.Ground.phase }],guard:=none },
 { dst:=none,op:=Go.Op.store 26 (Go.Operand.tmp 22) (Go.Operand.tmp 21),type:=0,pos:= "term.go:131",after:=#[{ on:=6,ground:=Go.Ground.data },{ on:=5,ground:=Go.Ground.data },{ on:=5,ground:=Go.Ground.chain },{ on:=0,ground:=Go.Ground.phase },{ on:=1,ground:=Go.Ground.phase },{ on:=2,ground:=Go.Ground.phase },{ on:=3,ground:=Go.Ground.phase },{ on:=4,ground:=Go.Ground.phase },{ on:=5,ground:=Go.Ground.phase }],guard:=none }]
def md_F (w0:World) (Ob Bx lo g0 n c:Nat) (A:Option Addr) (cells:List Value) (kk:Int) (q:Pl) (x:Tm):Nat→(Nat→Value)→Value→World→(Nat→Prop)→Prop:=fun rix=>match rix with
 | 0=>fun _ v _ _=>v=.pointer (some ⟨Ob,7,none⟩)
 | 1=>fun _ v _ _=>v=.slice A n c
 | 2=>fun _ v _ _=>v=tmV q x
 | 3=>fun τ v w O=>TmO (fun k=>k<g0) (ownT x) v w O
 | 4=>fun τ v w O=>TmLit (fun k=>k<g0) (ownT x) v w O
 | 5=>fun τ v w O=>RowT (fun k=>k<g0) lo n cells (ownT x) v w O
 | 6=>fun _ v _ _=>v=.pointer (some ⟨Ob,7,none⟩)
 | 7=>fun τ v w O=>w.heap[Ob]?=some (outK kk (τ 21))∧O Ob
 | _=>fun _ _ _ _=>True
def md_C:Nat→List Nat:=fun rix=>match rix with
 | 4=>[3]
 | 5=>[4]
 | _=>[]
theorem md_nw5:nwB md_ops.toArray 5=true:=by kernel_rfl
theorem md_nw7:nwB md_ops.toArray 7=true:=by kernel_rfl
set_option maxRecDepth 100000 in
set_option maxHeartbeats 8000000 in
theorem md_obs (w0:World) (Ob Bx lo g0 n c:Nat) (A:Option Addr) (cells:List Value) (kk:Int) (q:Pl) (x:Tm) (hO:w0.heap[Ob]?=some (outK kk (.slice A n c))) (hB:w0.heap[Bx]?=some (tmO q x)) (hin:TmIn w0 g0 q x) (hV:w0.ownsRow lo 28 8 (.slice A n c) n cells) (hn:n≤1000) (hlo:Ob<lo) (hlz:lo≤w0.heap.size) (hVB:(Value.slice A n c).ownBlock≠some Bx) (hBO:Bx≠Ob) (hg0:g0≤Ob) (Q:Exit→Act→World→Prop) (a0:Act) (hi5:a0.tmps.getD 5 undef=.pointer (some ⟨Ob,0,none⟩)) (hi7:a0.tmps.getD 7 undef=.pointer (some ⟨Bx,0,none⟩)) :
  ObsE Try.prog md_ops.toArray Q (est2 5 7 (fun k=>(Value.slice A n c).ownBlock=some k) (fun k=>k=Ob)) md_C (md_F w0 Ob Bx lo g0 n c A cells kk q x) a0 w0 md_ops.toArray.toList 0:=by
 have nw5:=md_nw5
 have nw7:=md_nw7
 refine ⟨?_,?_,?_,?_,?_,?_,?_,?_,trivial⟩
 ·refine ⟨⟨fun τ=>stableE_det _,leans_not⟩,?_⟩
  intro a w O hk
  have e5:a.eval (.tmp 5)=.pointer (some ⟨Ob,0,none⟩):=(hk.init 5 (initialB_of_nw nw5)).trans hi5
  exact obE_run (wanted_none rfl) (by unfold execOp;simp only [];rw [e5];go_simp) rfl
 ·refine ⟨⟨fun τ=>stableE_det _,leans_not⟩,?_⟩
  intro a w O hk
  have e16:a.eval (.tmp 16)=.pointer (some ⟨Ob,7,none⟩):=hk.fact 0 _ 16 rfl rfl rfl rfl
  have x7:=(hk.est 7 _ rfl (.inr rfl) Ob (.inr ⟨rfl,rfl⟩)).trans hO
  obtain ⟨p0,p1,p2,p3,p4,p5,p6,p7,-,-,-,-,-,-,-,-⟩:=row8c x7
  exact obE_run (wanted_none rfl) (by unfold execOp;simp only [];rw [e16];go_simp) rfl
 ·refine ⟨⟨fun τ=>stableE_det _,leans_not⟩,?_⟩
  intro a w O hk
  have e7:a.eval (.tmp 7)=.pointer (some ⟨Bx,0,none⟩):=(hk.init 7 (initialB_of_nw nw7)).trans hi7
  have xB:=(hk.fix Bx (est2_fix (blk_lt hB) (fun e=>hVB e) (fun e=>hBO e))).trans hB
  exact obE_loadRow rfl e7 xB Try.underlying28 rfl (by kernel_rfl) (wanted_none rfl) rfl
 ·refine ⟨⟨fun τ=>stableE_tm (fun k hk'=>est2_fix (by have hk':k<g0:=hk';omega) (fun e=>by have:=own_base hV k e;have hk':k<g0:=hk';omega) (fun e=>by have e:k=Ob:=e;have hk':k<g0:=hk';omega)),leans_not⟩,?_⟩
  intro a w O hk
  have e18:a.eval (.tmp 18)=tmV q x:=hk.fact 2 _ 18 rfl rfl rfl rfl
  have hsz:=hk.world.size
  exact obE_tmCall #[tmV q x] rfl rfl rfl rfl (by simp only [List.map_cons,List.map_nil];rw [e18];try rfl) (wanted_none rfl) ((town_calls g0 x q w (by omega) (hin.same fun k hk' _=>by have hk':k<g0:=hk';exact hk.fix k (est2_fix (by omega) (fun e=>by have:=own_base hV k e;omega) (fun e=>by have e:k=Ob:=e;omega)))).mono fun e w' ⟨q',h1,h2,h3⟩=>⟨q',h1,h2.mono fun k h hz=>h.elim (fun h=>.inl (.inl h)) .inr,h3⟩)
 ·refine ⟨⟨fun τ=>stableE_tmlit (fun k hk'=>est2_fix (by have hk':k<g0:=hk';omega) (fun e=>by have:=own_base hV k e;have hk':k<g0:=hk';omega) (fun e=>by have e:k=Ob:=e;have hk':k<g0:=hk';omega)),leans_not⟩,?_⟩
  intro a w O hk
  have f19:=hk.fact 3 _ 19 rfl rfl rfl rfl
  have g19:=hk.owns 3 rfl rfl
  have hsz:=hk.world.size
  exact obE_tmLit (x:=.tmp 19) (wanted_none rfl) (fun q' e19=>by unfold execOp;simp only [List.map_toArray,List.map_cons,List.map_nil];rw [e19];unfold tmV;go_simp;rfl) f19 (fun k h=>.inl ⟨3,by simp [md_C],h⟩) (fun k h=>((hk.owns 3 rfl rfl) k h).1) (fun k h=>by have h:k<g0:=h;omega)
 ·refine ⟨⟨fun τ=>stableE_rowv (fun k hk'=>est2_fix (by have hk':k<g0:=hk';omega) (fun e=>by have:=own_base hV k e;have hk':k<g0:=hk';omega) (fun e=>by have e:k=Ob:=e;have hk':k<g0:=hk';omega)),leans_not⟩,?_⟩
  intro a w O hk
  have e17:a.eval (.tmp 17)=.slice A n c:=hk.fact 1 _ 17 rfl rfl rfl rfl
  have f20:=hk.fact 4 _ 20 rfl rfl rfl rfl
  have g20:=hk.owns 4 rfl rfl
  have ow:=ownsRow_same hV (fun k hk'=>hk.est 5 _ rfl (.inl rfl) k (.inl ⟨rfl,hk'⟩))
  have hsz:=hk.world.size
  exact obE_tmPush (x:=.tmp 17) (y:=.tmp 20) (ty:=26) rfl rfl (wanted_none rfl) e17 ow (fun k h=>.inr (.inl ⟨rfl,h⟩)) (by omega) (by omega) f20 (fun k h=>.inl ⟨4,by simp [md_C],h⟩) (fun k h=>((hk.owns 4 rfl rfl) k h).1) (fun k h h2=>hk.away 5 4 _ rfl (.inl rfl) rfl rfl k (.inl ⟨rfl,h⟩) h2) (fun k h=>by have h:k<g0:=h;omega)
 ·refine ⟨⟨fun τ=>stableE_det _,leans_not⟩,?_⟩
  intro a w O hk
  have e5:a.eval (.tmp 5)=.pointer (some ⟨Ob,0,none⟩):=(hk.init 5 (initialB_of_nw nw5)).trans hi5
  exact obE_run (wanted_none rfl) (by unfold execOp;simp only [];rw [e5];go_simp) rfl
 ·refine ⟨⟨fun τ=>(fun v w w' O h hz hk=>⟨(hk Ob (blk_lt h.1) (.inr h.2)).trans h.1,h.2⟩),fun τ τ' h=>by have e:τ' 21=τ 21:=h 5 _ 21 rfl rfl rfl;show (fun (v:Value) (w:World) (O:Nat→Prop)=>w.heap[Ob]?=some (outK kk (τ 21))∧O Ob)=(fun (v:Value) (w:World) (O:Nat→Prop)=>w.heap[Ob]?=some (outK kk (τ' 21))∧O Ob);rw [e]⟩,?_⟩
  intro a w O hk
  have e22:a.eval (.tmp 22)=.pointer (some ⟨Ob,7,none⟩):=hk.fact 6 _ 22 rfl rfl rfl rfl
  have f21:=hk.fact 5 _ 21 rfl rfl rfl rfl
  have g21:=hk.owns 5 rfl rfl
  obtain ⟨q8,hs9,-,-⟩:=f21
  obtain ⟨A3,c3,q33⟩:=own_slice hs9
  have e21:a.eval (.tmp 21)=.slice A3 (n+1) c3:=q33
  have x7:=(hk.est 7 _ rfl (.inl rfl) Ob (.inr ⟨rfl,rfl⟩)).trans hO
  obtain ⟨p0,p1,p2,p3,p4,p5,p6,p7,k0,k1,k2,k3,k4,k5,k6,k7⟩:=row8c x7
  refine obE_store (w':=w.setCell ⟨Ob,7,none⟩ (.slice A3 (n+1) c3)) (fun k=>k=Ob) (wanted_none rfl) (by unfold execOp;simp only [];rw [e22,e21];go_simp) ((chg_set w Ob 7 _).mono fun k h=>.inr (.inr ⟨rfl,h⟩)) ⟨?_,rfl⟩ (fun k h=>.inl (.inr (.inr ⟨rfl,h⟩)))
  show _=some (outK kk (a.tmps.getD 21 undef))
  rw [q33]
  exact blk_put x7 7 _ rfl
set_option maxRecDepth 100000 in
set_option maxHeartbeats 8000000 in
theorem md_region {Q:Exit→Act→World→Prop} {id:Nat} (w0:World) (Ob Bx lo g0 n c:Nat) (A:Option Addr) (cells:List Value) (kk:Int) (q:Pl) (x:Tm) {s0 s1 s2 s3 s4 s6 s8 s9 s10 s11 s12 s13 s14 s15 s16 s17 s18 s19 s20 s21 s22 s23 s24:Value} (hO:w0.heap[Ob]?=some (outK kk (.slice A n c))) (hB:w0.heap[Bx]?=some (tmO q x)) (hin:TmIn w0 g0 q x) (hV:w0.ownsRow lo 28 8 (.slice A n c) n cells) (hn:n≤1000) (hlo:Ob<lo) (hlz:lo≤w0.heap.size) (hVB:(Value.slice A n c).ownBlock≠some Bx) (hBO:Bx≠Ob) (hg0:g0≤Ob)
  (hend:∀ (w':World) (u19:Value) (u20:Value) (u21:Value) (O5:Nat→Prop) (v7:Value) (O7:Nat→Prop),Chg (fun k=>(fun k=>(Value.slice A n c).ownBlock=some k) k∨(fun k=>k=Ob) k) w0 w'→(RowT (fun k=>k<g0) lo n cells (ownT x) u21 w' O5)→(∀ k,O5 k→k<w'.heap.size∧¬ Fix w0 (est2 5 7 (fun k=>(Value.slice A n c).ownBlock=some k) (fun k=>k=Ob)) k)→(w'.heap[Ob]?=some (outK kk (u21))∧O7 Ob)→(∀ k,O7 k→k<w'.heap.size∧¬ Fix w0 (est2 5 7 (fun k=>(Value.slice A n c).ownBlock=some k) (fun k=>k=Ob)) k)→(∀ k,O5 k→¬ O7 k)→Q .normal { tmps:=(s0 :: s1 :: s2 :: s3 :: s4 :: (.pointer (some ⟨Ob,0,none⟩)) :: s6 :: (.pointer (some ⟨Bx,0,none⟩)) :: s8 :: s9 :: s10 :: s11 :: s12 :: s13 :: s14 :: s15 :: (.pointer (some ⟨Ob,7,none⟩)) :: (.slice A n c) :: (tmV q x) :: u19 :: u20 :: u21 :: (.pointer (some ⟨Ob,7,none⟩)) :: s23 :: s24 :: []:List Value).toArray,defers:=[] } w') :
  (Code.region id md_ops.toArray true).wp Try.prog Q { tmps:=(s0 :: s1 :: s2 :: s3 :: s4 :: (.pointer (some ⟨Ob,0,none⟩)) :: s6 :: (.pointer (some ⟨Bx,0,none⟩)) :: s8 :: s9 :: s10 :: s11 :: s12 :: s13 :: s14 :: s15 :: s16 :: s17 :: s18 :: s19 :: s20 :: s21 :: s22 :: s23 :: s24 :: []:List Value).toArray,defers:=[] } w0:=by
 refine wp_region_est (by kernel_rfl) (est2 5 7 (fun k=>(Value.slice A n c).ownBlock=some k) (fun k=>k=Ob)) md_C (md_F w0 Ob Bx lo g0 n c A cells kk q x) (est2_dis (fun k h h2=>by have:=own_base hV k h;have h2:k=Ob:=h2;omega)) (est2_range (fun k hk=>own_lt hV k hk) (fun k hk=>hk ▸ blk_lt hO)) (by rfl) (by kernel_rfl) (md_obs w0.drew Ob Bx lo g0 n c A cells kk q x hO hB (TmS.same hin (fun _ _ _=>rfl)) hV hn hlo hlz hVB hBO hg0 _ _ rfl rfl) ?_
 intro a w' O hd hs hb hf hf2 ha hsame
 have hl:=slots_eq (ops:=md_ops.toArray) [(16,.pointer (some ⟨Ob,7,none⟩)),(17,.slice A n c),(18,tmV q x),(19,a.tmps.getD 19 undef),(20,a.tmps.getD 20 undef),(21,a.tmps.getD 21 undef),(22,.pointer (some ⟨Ob,7,none⟩))] (show a.tmps.size=25 from hs) (fun i h=>hsame i h) ⟨(hf 0 _ 16 rfl rfl (by decide)).1,(hf 1 _ 17 rfl rfl (by decide)).1,(hf 2 _ 18 rfl rfl (by decide)).1,rfl,rfl,rfl,(hf 6 _ 22 rfl rfl (by decide)).1,trivial⟩ (by kernel_rfl)
 obtain ⟨tmps,defers⟩:=a
 obtain rfl:defers=[]:=hd
 have hl':tmps=_:=hl
 rw [hl']
 obtain ⟨⟨v7,hv7⟩,ho7⟩:=hf2 7 _ rfl rfl (by decide)
 have hb':=est2_chg hb
 refine Eq.mp ?_ (hend w' (tmps.getD 19 undef) (tmps.getD 20 undef) (tmps.getD 21 undef) (O 5) v7 (O 7) ⟨hb'.os,hb'.tape,hb'.output,hb'.size,hb'.block⟩ (hf 5 _ 21 rfl rfl (by decide)).1 (hf 5 _ 21 rfl rfl (by decide)).2 hv7 ho7 (ha 5 7 (by decide) (by decide) (by decide) (by decide) (by decide)))
 kernel_rfl

end Go.Proofs.Ytdboloabpjmgaaa

namespace Go.Proofs.Ytdboloabpjmgaaa
open Go.RowKit Go.Proofs.YtdboloabpjmgaaaW.PrintWords Go.RegionInvYtdboloabpjmgaaa Go.RegionEYtdboloabpjmgaaa

def madeT (kk:Int) (xs:List Tm):Tm:=.mk kk 0 noName lv0 [] (xs.map ownT)
def TmsAt (w:World) (g0:Nat) (L:Option Addr) (q:Nat→Pl) (xs:List Tm):Prop:=∀ (i:Nat) (x:Tm),xs[i]?=some x→KidAt w (fun k=>k<w.heap.size) L i (q i) x∧TmIn w g0 (q i) x
theorem TmsAt.stay {w w':World} {g0:Nat} {L:Option Addr} {q:Nat→Pl} {xs:List Tm} (h:TmsAt w g0 L q xs) (hb:Below w.heap.size w w') (hg:g0≤w.heap.size):TmsAt w' g0 L q xs:=
 fun i x hx=>⟨((h i x hx).1.same fun k hk _=>hb.block k hk).mono fun k _ hz=>hz,(h i x hx).2.stay (hb.mono hg)⟩
set_option maxRecDepth 100000 in
set_option maxHeartbeats 16000000 in
theorem made_calls (g0:Nat) (kk:Int) (L:Option Addr) (n c:Nat) (q:Nat→Pl) (xs:List Tm) (w:World) (hg0:g0≤w.heap.size) (hn:n=xs.length) (hn9:n≤100) (hin:TmsAt w g0 L q xs) :
  Calls Try.prog 73 #[.int .i64 kk,.slice L n c] w (TmGot w (fun k=>k<g0) (madeT kk xs)):=by
 have HIN:=Ak hin
 have HN:=Ak hn
 obtain ⟨W,hW⟩:∃ W,W=(w.alloc (outK 0 (.slice none 0 0))).alloc (outK kk (.slice none 0 0)):=⟨_,rfl⟩
 have HB:=Ak (show Below w.heap.size w W by rw [hW];exact below_alloc (below_alloc (Below.refl _ _) _) _)
 have HX:=Ak (show W.heap[w.heap.size]?=some (outK 0 (.slice none 0 0)) by rw [hW];exact box0 w _ _)
 have HX1:=Ak (show W.heap[w.heap.size+1]?=some (outK kk (.slice none 0 0)) by rw [hW];exact box1 w _ _)
 have HZ:=Ak (show W.heap.size=w.heap.size+1+1 by rw [hW];simp)
 obtain ⟨y,hy⟩:∃ y,y=madeT kk xs:=⟨_,rfl⟩
 have HY:=Ak hy
 rw [← hy]
 clear hin hn hy
 go_enter Try.func73,Try.ntmps73
 go_upto_region 2 with (fail)
 rw [← hW]
 clear hW
 go_wp2
 go_loopw [12] (fun i wr=>∃ (k:Nat) (V:Value),i=.int .i64 k∧k≤n∧Aside0 (wr.heap[w.heap.size+1]?=some (outK kk V))∧Aside0 (wr.heap[w.heap.size]?=some (outK 0 (.slice none 0 0)))∧Aside0 (KidsT wr (fun k=>k<g0) (w.heap.size+1+1) V ((xs.take k).map ownT))∧Aside0 (Below w.heap.size w wr)∧w.heap.size+1+1≤wr.heap.size) (fun i _=>n - (intOf i).toNat)
 case atStart=>exact ⟨0,.slice none 0 0,rfl,Nat.zero_le _,HX1,HX,⟨KidsT.nil _ _ _⟩,HB,by have:=HZ.out;omega⟩
 case round =>
  clear HB HX HX1 HZ
  obtain ⟨k,V,rfl,hk,HO,HX,HK,HB,hzw⟩:=hrel
  by_cases hlt:k<n
  ·have hlt2:k<xs.length:=by rw [← HN.out];exact hlt
   obtain ⟨x,hx⟩:∃ x,xs[k]?=some x:=⟨_,List.getElem?_eq_getElem hlt2⟩
   have HTK:=Ak (show (xs.take (k+1)).map ownT=(xs.take k).map ownT ++ [ownT x] by rw [List.take_add_one,hx,List.map_append];rfl)
   have HTL:=Ak (show ((xs.take k).map ownT).length=k by rw [List.length_map,List.length_take];omega)
   obtain ⟨⟨bk,oo,hL,hSb,hcells⟩,hxin⟩:=HIN.out k x hx
   have hbk:∀ j v,(tmC (q k) x)[j]?=some v→wr.cell? ⟨bk,oo+k * 8+j,none⟩=some v:=fun j v hv=>(cell_same (HB.out.block bk hSb)).trans (hcells j v hv)
   have d0:=hbk 0 _ rfl
   have d1:=hbk 1 _ rfl
   have d2:=hbk 2 _ rfl
   have d3:=hbk 3 _ rfl
   have d4:=hbk 4 _ rfl
   have d5:=hbk 5 _ rfl
   have d6:=hbk 6 _ rfl
   have d7:=hbk 7 _ rfl
   rw [Nat.add_zero] at d0
   have HLL:=Ak hL
   have HXIN:=Ak (TmIn.stay hxin (HB.out.mono hg0))
   rw [hL]
   clear hL hcells hbk hx hlt2 hxin
   go_upto_region 5 with (fail)
   obtain ⟨W5,hW5⟩:∃ W5,W5=wr.alloc (tmO (q k) x):=⟨_,rfl⟩
   have hB5:Below wr.heap.size wr W5:=by rw [hW5];exact below_alloc (Below.refl _ _) _
   have HBX5:=Ak (show W5.heap[wr.heap.size]?=some (tmO (q k) x) by rw [hW5];exact blk_new _ _)
   have HO5:=Ak ((hB5.block _ (by omega)).trans HO.out)
   have HX5:=Ak ((hB5.block _ (by omega)).trans HX.out)
   have HIN5:=Ak (TmIn.stay HXIN.out (hB5.mono (by omega)))
   have HBW5:=Ak (below_then HB.out HB.out.size hB5)
   obtain ⟨cells,qq,hown,hkids⟩:=HK.out.later hB5
   rw [HTL.out] at hown
   obtain ⟨A9,c9,rfl⟩:=own_slice hown
   have hVB:(Value.slice A9 k c9).ownBlock≠some wr.heap.size:=by
    obtain ⟨cells2,_,hown2,_⟩:=HK.out
    intro e
    have:=own_lt hown2 _ e
    omega
   have hz5:wr.heap.size<W5.heap.size:=blk_lt HBX5.out
   have HOWN:=Ak hown
   have HKID:=Ak hkids
   clear hB5 hown hkids
   unfold tmO at hW5
   rw [← hW5]
   clear hW5 HO HX HK
   refine md_region W5 (w.heap.size+1) wr.heap.size (w.heap.size+1+1) g0 k c9 A9 cells kk (q k) x HO5.out HBX5.out HIN5.out HOWN.out (by omega) (by omega) (by omega) hVB (by omega) (by omega) ?_
   intro w' u19 u20 u21 O5 v7 O7 hch h5 hO5 h7 _ hap
   have hfin:=reb_round HTL.out HKID.out HOWN.out hch h5 hO5 (fun h=>hap _ h h7.2) (by omega) (by omega) (by omega) (fun _ h=>h)
   rw [← HTK.out] at hfin
   have HK6:=Ak hfin
   have HO6:=Ak h7.1
   have HX6:=Ak ((hch.block _ (by omega) (fun e=>e.elim (fun e=>by have:=own_base HOWN.out _ e;omega) (fun e=>by have e:w.heap.size=w.heap.size+1:=e;omega))).trans HX5.out)
   have HB6:=Ak (show Below w.heap.size w w' from Below.trans HBW5.out (hch.below (fun k e=>e.elim (fun e=>by have:=own_base HOWN.out _ e;omega) (fun e=>by have e:k=w.heap.size+1:=e;omega)) HBW5.out.size))
   have hz6:=hch.size
   clear hch h5 hO5 h7 hap hfin
   go_wp2
   go_roundw
   case rel=>exact ⟨k+1,_,by go_num,by omega,HO6,HX6,HK6,HB6,by omega⟩
   case measure=>(simp [intOf];try omega)
  ·obtain rfl:k=n:=by omega
   have hlt':decide ((k:Int)<k)=false:=by simp
   have hfull:xs.take k=xs:=List.take_of_length_le (by rw [HN.out];exact Nat.le_refl _)
   rw [hfull] at HK
   obtain ⟨K9,e9,hV9,hterm⟩:=HK.out.term
   obtain ⟨m9,hm9⟩:∃ m,(xs.map ownT).length=m:=⟨_,rfl⟩
   rw [hm9] at hV9
   subst hV9
   have HTM:=Ak (hterm kk 0 noName ⟨by decide,by decide,by simp⟩)
   obtain ⟨o0,o1,o2,o3,o4,o5,o6,o7,-,-,-,-,-,-,-,-⟩:=row8c HO.out
   obtain ⟨r0,r1,r2,r3,r4,r5,r6,r7,f0,f1,f2,f3,f4,f5,f6,f7⟩:=row8c HX.out
   have HM9:=Ak hm9
   have hzr:w.heap.size<wr.heap.size:=by omega
   clear hterm hm9 hfull
   go_wp2
   refine bodyPost_ret (results_c rfl _ _ (w.heap.size) 28 #[.int .i64 kk,.int .i64 0,.string ⟨#[]⟩,.int .i64 0,.int .i64 0,.slice none 0 0,.slice none 0 0,.slice K9 m9 e9] (0,0) _ rfl (set8 HX.out) Try.underlying28 rfl (by kernel_rfl)) rfl ?_
   have hv:(Value.agg #[.int .i64 kk,.int .i64 0,.string ⟨#[]⟩,.int .i64 0,.int .i64 0,.slice none 0 0,.slice none 0 0,.slice K9 m9 e9])=tmV ⟨none,0,none,0,K9,e9⟩ (madeT kk xs):=by unfold tmV madeT;rw [← HM9.out];rfl
   rw [hv,HY.out]
   exact tm_ret (g:=w.heap.size) HTM.out (chg_set8 wr (w.heap.size) (.int .i64 kk) (.int .i64 0) (.string ⟨#[]⟩) (.int .i64 0) (.int .i64 0) (.slice none 0 0) (.slice none 0 0) (.slice K9 m9 e9)) hg0 (Nat.le_refl _) (by omega) HB.out

theorem row_at {w:World} {g j:Nat} {cs:List Value} {t:TypeId} (k:Nat) (h:w.heap[g]?=some (.cells cs.toArray t (0,0))) (_:j<8) (_:k+j<cs.length):w.cell? ⟨g,k+j,none⟩=cs[k+j]?:=by
 rw [cell_of_row _ _ _ _ _ _ h,List.getElem?_toArray]
theorem pi_row {w:World} {g:Nat} {pa:Pl} {a:Tm} {pb:Pl} {b:Tm} {g0:Nat} (h:w.heap[g]?=some (.cells (tmC pa a ++ tmC pb b).toArray 28 (0,0))) (ha:TmIn w g0 pa a) (hb:TmIn w g0 pb b):TmsAt w g0 (some ⟨g,0,none⟩) (fun i=>if i=0 then pa else pb) [a,b]:=by
 have hg:=blk_lt h
 intro i x hx

 by_cases h0:i=0
 ·subst h0
  obtain rfl:a=x:=by simpa using hx
  refine ⟨⟨g,0,rfl,hg,fun j v hv=>?_⟩,ha⟩
  have hj:j<8:=by have:=(List.getElem?_eq_some_iff.1 hv).1;rwa [tmC_len] at this
  have e:=row_at 0 h hj (by simp only [List.length_append,tmC_len];omega)
  rw [show 0+0 * 8+j=0+j by omega,e]
  have e2:(tmC pa a ++ tmC pb b)[0+j]?=(tmC pa a)[j]?:=by
   rw [List.getElem?_append_left (by rw [tmC_len];omega),Nat.zero_add]
  exact e2.trans hv
 by_cases h1:i=1
 ·subst h1
  obtain rfl:b=x:=by simpa using hx
  refine ⟨⟨g,0,rfl,hg,fun j v hv=>?_⟩,hb⟩
  have hj:j<8:=by have:=(List.getElem?_eq_some_iff.1 hv).1;rwa [tmC_len] at this
  have e:=row_at 8 h hj (by simp only [List.length_append,tmC_len];omega)
  rw [show 0+1 * 8+j=8+j by omega,e]
  have e2:(tmC pa a ++ tmC pb b)[8+j]?=(tmC pb b)[j]?:=by
   rw [List.getElem?_append_right (by rw [tmC_len];omega),tmC_len,Nat.add_sub_cancel_left]
  exact e2.trans hv
 exfalso
 have:=(List.getElem?_eq_some_iff.1 hx).1
 simp only [List.length_cons,List.length_nil] at this
 omega

set_option maxRecDepth 100000 in
set_option maxHeartbeats 8000000 in
theorem pi_calls (g0:Nat) (pa:Pl) (a:Tm) (pb:Pl) (b:Tm) (w:World) (hg0:g0≤w.heap.size) (ha:TmIn w g0 pa a) (hb:TmIn w g0 pb b) :
  Calls Try.prog 30 #[tmV pa a,tmV pb b] w (TmGot w (fun k=>k<g0) (madeT 3 [a,b])):=by
 obtain ⟨W,hW⟩:∃ W,W=(((w.alloc (tmO pa a)).alloc (tmO pb b)).alloc (outK 0 (.slice none 0 0))).alloc (.cells (tmC pa a ++ tmC pb b).toArray 28 (0,0)):=⟨_,rfl⟩
 have hbW:Below w.heap.size w W:=by rw [hW];exact below_alloc (below_alloc (below_alloc (below_alloc (Below.refl _ _) _) _) _) _
 have hXR:W.heap[w.heap.size+1+1]?=some (outK 0 (.slice none 0 0)):=by
  rw [hW]
  refine blk_alloc ?_ _
  have:=blk_new ((w.alloc (tmO pa a)).alloc (tmO pb b)) (outK 0 (.slice none 0 0))
  simpa using this
 have hXS:W.heap[w.heap.size+1+1+1]?=some (.cells (tmC pa a ++ tmC pb b).toArray 28 (0,0)):=by
  rw [hW]
  have:=blk_new (((w.alloc (tmO pa a)).alloc (tmO pb b)).alloc (outK 0 (.slice none 0 0))) (.cells (tmC pa a ++ tmC pb b).toArray 28 (0,0))
  simpa using this
 have HXR:=Ak hXR
 have HB:=Ak hbW
 have HZ:=Ak (blk_lt hXS)
 have HIN:=Ak (pi_row (g0:=g0) hXS (TmIn.stay ha (hbW.mono hg0)) (TmIn.stay hb (hbW.mono hg0)))
 have HM:=Ak (show ∀ (kk:Int),Calls Try.prog 73 #[.int .i64 kk,.slice (some ⟨w.heap.size+1+1+1,0,none⟩) 2 2] W (TmGot W (fun k=>k<g0) (madeT kk [a,b])) from fun kk=>made_calls g0 kk _ 2 2 _ [a,b] W (Nat.le_trans hg0 hbW.size) rfl (by decide) HIN.out)
 obtain ⟨y,hy⟩:∃ y,y=madeT 3 [a,b]:=⟨_,rfl⟩
 have HY:=Ak hy
 rw [← hy]
 clear hbW hXR hXS hy ha hb
 unfold tmV
 unfold tmO at hW
 have hW':W=_:=hW
 simp only [tmC,List.cons_append,List.nil_append] at hW'
 go_enter Try.func30,Try.ntmps30
 go_wp2_with (go_at_call 73;go_must (rw [← hW'];clear hW hW';refine (HM.out 3).mono ?_;rw [← HY.out];rintro e w3 ⟨q9,rfl,ht9,hb3⟩;have HT9:=Ak ht9;have hX13:=(hb3.block _ (blk_lt HXR.out)).trans HXR.out;have HX13:=Ak hX13;have HB3:=Ak (below_then HB.out HB.out.size hb3);obtain ⟨r0,r1,r2,r3,r4,r5,r6,r7,f0,f1,f2,f3,f4,f5,f6,f7⟩:=row8c hX13;clear ht9 hb3 hX13;unfold tmV))
 refine bodyPost_ret (results_c rfl _ _ (w.heap.size+1+1) 28 #[.int .i64 y.kind,.int .i64 y.num,.string y.name,.int .i64 y.lv.kind,.int .i64 y.lv.num,.slice q9.A y.lv.kids.length q9.c,.slice q9.B y.ls.length q9.d,.slice q9.K y.kids.length q9.e] (0,0) _ rfl (set8 HX13.out) Try.underlying28 rfl (by kernel_rfl)) rfl ?_
 exact tm_ret (g:=w.heap.size+1+1) HT9.out (chg_set8 w3 (w.heap.size+1+1) (.int .i64 y.kind) (.int .i64 y.num) (.string y.name) (.int .i64 y.lv.kind) (.int .i64 y.lv.num) (.slice q9.A y.lv.kids.length q9.c) (.slice q9.B y.ls.length q9.d) (.slice q9.K y.kids.length q9.e)) hg0 (by omega) (by have:=HZ.out;omega) HB3.out

theorem lam_row {w:World} {g:Nat} {pa:Pl} {a:Tm} {pb:Pl} {b:Tm} {g0:Nat} (h:w.heap[g]?=some (.cells (tmC pa a ++ tmC pb b).toArray 28 (0,0))) (ha:TmIn w g0 pa a) (hb:TmIn w g0 pb b):TmsAt w g0 (some ⟨g,0,none⟩) (fun i=>if i=0 then pa else pb) [a,b]:=by
 have hg:=blk_lt h
 intro i x hx

 by_cases h0:i=0
 ·subst h0
  obtain rfl:a=x:=by simpa using hx
  refine ⟨⟨g,0,rfl,hg,fun j v hv=>?_⟩,ha⟩
  have hj:j<8:=by have:=(List.getElem?_eq_some_iff.1 hv).1;rwa [tmC_len] at this
  have e:=row_at 0 h hj (by simp only [List.length_append,tmC_len];omega)
  rw [show 0+0 * 8+j=0+j by omega,e]
  have e2:(tmC pa a ++ tmC pb b)[0+j]?=(tmC pa a)[j]?:=by
   rw [List.getElem?_append_left (by rw [tmC_len];omega),Nat.zero_add]
  exact e2.trans hv
 by_cases h1:i=1
 ·subst h1
  obtain rfl:b=x:=by simpa using hx
  refine ⟨⟨g,0,rfl,hg,fun j v hv=>?_⟩,hb⟩
  have hj:j<8:=by have:=(List.getElem?_eq_some_iff.1 hv).1;rwa [tmC_len] at this
  have e:=row_at 8 h hj (by simp only [List.length_append,tmC_len];omega)
  rw [show 0+1 * 8+j=8+j by omega,e]
  have e2:(tmC pa a ++ tmC pb b)[8+j]?=(tmC pb b)[j]?:=by
   rw [List.getElem?_append_right (by rw [tmC_len];omega),tmC_len,Nat.add_sub_cancel_left]
  exact e2.trans hv
 exfalso
 have:=(List.getElem?_eq_some_iff.1 hx).1
 simp only [List.length_cons,List.length_nil] at this
 omega

set_option maxRecDepth 100000 in
set_option maxHeartbeats 8000000 in
theorem lam_calls (g0:Nat) (pa:Pl) (a:Tm) (pb:Pl) (b:Tm) (w:World) (hg0:g0≤w.heap.size) (ha:TmIn w g0 pa a) (hb:TmIn w g0 pb b) :
  Calls Try.prog 31 #[tmV pa a,tmV pb b] w (TmGot w (fun k=>k<g0) (madeT 4 [a,b])):=by
 obtain ⟨W,hW⟩:∃ W,W=(((w.alloc (tmO pa a)).alloc (tmO pb b)).alloc (outK 0 (.slice none 0 0))).alloc (.cells (tmC pa a ++ tmC pb b).toArray 28 (0,0)):=⟨_,rfl⟩
 have hbW:Below w.heap.size w W:=by rw [hW];exact below_alloc (below_alloc (below_alloc (below_alloc (Below.refl _ _) _) _) _) _
 have hXR:W.heap[w.heap.size+1+1]?=some (outK 0 (.slice none 0 0)):=by
  rw [hW]
  refine blk_alloc ?_ _
  have:=blk_new ((w.alloc (tmO pa a)).alloc (tmO pb b)) (outK 0 (.slice none 0 0))
  simpa using this
 have hXS:W.heap[w.heap.size+1+1+1]?=some (.cells (tmC pa a ++ tmC pb b).toArray 28 (0,0)):=by
  rw [hW]
  have:=blk_new (((w.alloc (tmO pa a)).alloc (tmO pb b)).alloc (outK 0 (.slice none 0 0))) (.cells (tmC pa a ++ tmC pb b).toArray 28 (0,0))
  simpa using this
 have HXR:=Ak hXR
 have HB:=Ak hbW
 have HZ:=Ak (blk_lt hXS)
 have HIN:=Ak (lam_row (g0:=g0) hXS (TmIn.stay ha (hbW.mono hg0)) (TmIn.stay hb (hbW.mono hg0)))
 have HM:=Ak (show ∀ (kk:Int),Calls Try.prog 73 #[.int .i64 kk,.slice (some ⟨w.heap.size+1+1+1,0,none⟩) 2 2] W (TmGot W (fun k=>k<g0) (madeT kk [a,b])) from fun kk=>made_calls g0 kk _ 2 2 _ [a,b] W (Nat.le_trans hg0 hbW.size) rfl (by decide) HIN.out)
 obtain ⟨y,hy⟩:∃ y,y=madeT 4 [a,b]:=⟨_,rfl⟩
 have HY:=Ak hy
 rw [← hy]
 clear hbW hXR hXS hy ha hb
 unfold tmV
 unfold tmO at hW
 have hW':W=_:=hW
 simp only [tmC,List.cons_append,List.nil_append] at hW'
 go_enter Try.func31,Try.ntmps31
 go_wp2_with (go_at_call 73;go_must (rw [← hW'];clear hW hW';refine (HM.out 4).mono ?_;rw [← HY.out];rintro e w3 ⟨q9,rfl,ht9,hb3⟩;have HT9:=Ak ht9;have hX13:=(hb3.block _ (blk_lt HXR.out)).trans HXR.out;have HX13:=Ak hX13;have HB3:=Ak (below_then HB.out HB.out.size hb3);obtain ⟨r0,r1,r2,r3,r4,r5,r6,r7,f0,f1,f2,f3,f4,f5,f6,f7⟩:=row8c hX13;clear ht9 hb3 hX13;unfold tmV))
 refine bodyPost_ret (results_c rfl _ _ (w.heap.size+1+1) 28 #[.int .i64 y.kind,.int .i64 y.num,.string y.name,.int .i64 y.lv.kind,.int .i64 y.lv.num,.slice q9.A y.lv.kids.length q9.c,.slice q9.B y.ls.length q9.d,.slice q9.K y.kids.length q9.e] (0,0) _ rfl (set8 HX13.out) Try.underlying28 rfl (by kernel_rfl)) rfl ?_
 exact tm_ret (g:=w.heap.size+1+1) HT9.out (chg_set8 w3 (w.heap.size+1+1) (.int .i64 y.kind) (.int .i64 y.num) (.string y.name) (.int .i64 y.lv.kind) (.int .i64 y.lv.num) (.slice q9.A y.lv.kids.length q9.c) (.slice q9.B y.ls.length q9.d) (.slice q9.K y.kids.length q9.e)) hg0 (by omega) (by have:=HZ.out;omega) HB3.out

theorem let_row {w:World} {g:Nat} {pa:Pl} {a:Tm} {pu:Pl} {u:Tm} {pb:Pl} {b:Tm} {g0:Nat} (h:w.heap[g]?=some (.cells (tmC pa a ++ tmC pu u ++ tmC pb b).toArray 28 (0,0))) (ha:TmIn w g0 pa a) (hu:TmIn w g0 pu u) (hb:TmIn w g0 pb b):TmsAt w g0 (some ⟨g,0,none⟩) (fun i=>if i=0 then pa else if i=1 then pu else pb) [a,u,b]:=by
 have hg:=blk_lt h
 intro i x hx

 by_cases h0:i=0
 ·subst h0
  obtain rfl:a=x:=by simpa using hx
  refine ⟨⟨g,0,rfl,hg,fun j v hv=>?_⟩,ha⟩
  have hj:j<8:=by have:=(List.getElem?_eq_some_iff.1 hv).1;rwa [tmC_len] at this
  have e:=row_at 0 h hj (by simp only [List.length_append,tmC_len];omega)
  rw [show 0+0 * 8+j=0+j by omega,e]
  have e2:(tmC pa a ++ tmC pu u ++ tmC pb b)[0+j]?=(tmC pa a)[j]?:=by
   rw [List.getElem?_append_left (by rw [List.length_append,tmC_len,tmC_len];omega),List.getElem?_append_left (by rw [tmC_len];omega),Nat.zero_add]
  exact e2.trans hv
 by_cases h1:i=1
 ·subst h1
  obtain rfl:u=x:=by simpa using hx
  refine ⟨⟨g,0,rfl,hg,fun j v hv=>?_⟩,hu⟩
  have hj:j<8:=by have:=(List.getElem?_eq_some_iff.1 hv).1;rwa [tmC_len] at this
  have e:=row_at 8 h hj (by simp only [List.length_append,tmC_len];omega)
  rw [show 0+1 * 8+j=8+j by omega,e]
  have e2:(tmC pa a ++ tmC pu u ++ tmC pb b)[8+j]?=(tmC pu u)[j]?:=by
   rw [List.getElem?_append_left (by rw [List.length_append,tmC_len,tmC_len];omega),List.getElem?_append_right (by rw [tmC_len];omega),tmC_len,Nat.add_sub_cancel_left]
  exact e2.trans hv
 by_cases h2:i=2
 ·subst h2
  obtain rfl:b=x:=by simpa using hx
  refine ⟨⟨g,0,rfl,hg,fun j v hv=>?_⟩,hb⟩
  have hj:j<8:=by have:=(List.getElem?_eq_some_iff.1 hv).1;rwa [tmC_len] at this
  have e:=row_at 16 h hj (by simp only [List.length_append,tmC_len];omega)
  rw [show 0+2 * 8+j=16+j by omega,e]
  have e2:(tmC pa a ++ tmC pu u ++ tmC pb b)[16+j]?=(tmC pb b)[j]?:=by
   rw [List.getElem?_append_right (by rw [List.length_append,tmC_len,tmC_len];omega),List.length_append,tmC_len,tmC_len,show 16+j - (8+8)=j by omega]
  exact e2.trans hv
 exfalso
 have:=(List.getElem?_eq_some_iff.1 hx).1
 simp only [List.length_cons,List.length_nil] at this
 omega

set_option maxRecDepth 100000 in
set_option maxHeartbeats 8000000 in
theorem let_calls (g0:Nat) (pa:Pl) (a:Tm) (pu:Pl) (u:Tm) (pb:Pl) (b:Tm) (w:World) (hg0:g0≤w.heap.size) (ha:TmIn w g0 pa a) (hu:TmIn w g0 pu u) (hb:TmIn w g0 pb b) :
  Calls Try.prog 32 #[tmV pa a,tmV pu u,tmV pb b] w (TmGot w (fun k=>k<g0) (madeT 5 [a,u,b])):=by
 obtain ⟨W,hW⟩:∃ W,W=((((w.alloc (tmO pa a)).alloc (tmO pu u)).alloc (tmO pb b)).alloc (outK 0 (.slice none 0 0))).alloc (.cells (tmC pa a ++ tmC pu u ++ tmC pb b).toArray 28 (0,0)):=⟨_,rfl⟩
 have hbW:Below w.heap.size w W:=by rw [hW];exact below_alloc (below_alloc (below_alloc (below_alloc (below_alloc (Below.refl _ _) _) _) _) _) _
 have hXR:W.heap[w.heap.size+1+1+1]?=some (outK 0 (.slice none 0 0)):=by
  rw [hW]
  refine blk_alloc ?_ _
  have:=blk_new (((w.alloc (tmO pa a)).alloc (tmO pu u)).alloc (tmO pb b)) (outK 0 (.slice none 0 0))
  simpa using this
 have hXS:W.heap[w.heap.size+1+1+1+1]?=some (.cells (tmC pa a ++ tmC pu u ++ tmC pb b).toArray 28 (0,0)):=by
  rw [hW]
  have:=blk_new ((((w.alloc (tmO pa a)).alloc (tmO pu u)).alloc (tmO pb b)).alloc (outK 0 (.slice none 0 0))) (.cells (tmC pa a ++ tmC pu u ++ tmC pb b).toArray 28 (0,0))
  simpa using this
 have HXR:=Ak hXR
 have HB:=Ak hbW
 have HZ:=Ak (blk_lt hXS)
 have HIN:=Ak (let_row (g0:=g0) hXS (TmIn.stay ha (hbW.mono hg0)) (TmIn.stay hu (hbW.mono hg0)) (TmIn.stay hb (hbW.mono hg0)))
 have HM:=Ak (show ∀ (kk:Int),Calls Try.prog 73 #[.int .i64 kk,.slice (some ⟨w.heap.size+1+1+1+1,0,none⟩) 3 3] W (TmGot W (fun k=>k<g0) (madeT kk [a,u,b])) from fun kk=>made_calls g0 kk _ 3 3 _ [a,u,b] W (Nat.le_trans hg0 hbW.size) rfl (by decide) HIN.out)
 obtain ⟨y,hy⟩:∃ y,y=madeT 5 [a,u,b]:=⟨_,rfl⟩
 have HY:=Ak hy
 rw [← hy]
 clear hbW hXR hXS hy ha hu hb
 unfold tmV
 unfold tmO at hW
 have hW':W=_:=hW
 simp only [tmC,List.cons_append,List.nil_append] at hW'
 go_enter Try.func32,Try.ntmps32
 go_wp2_with (go_at_call 73;go_must (rw [← hW'];clear hW hW';refine (HM.out 5).mono ?_;rw [← HY.out];rintro e w3 ⟨q9,rfl,ht9,hb3⟩;have HT9:=Ak ht9;have hX13:=(hb3.block _ (blk_lt HXR.out)).trans HXR.out;have HX13:=Ak hX13;have HB3:=Ak (below_then HB.out HB.out.size hb3);obtain ⟨r0,r1,r2,r3,r4,r5,r6,r7,f0,f1,f2,f3,f4,f5,f6,f7⟩:=row8c hX13;clear ht9 hb3 hX13;unfold tmV))
 refine bodyPost_ret (results_c rfl _ _ (w.heap.size+1+1+1) 28 #[.int .i64 y.kind,.int .i64 y.num,.string y.name,.int .i64 y.lv.kind,.int .i64 y.lv.num,.slice q9.A y.lv.kids.length q9.c,.slice q9.B y.ls.length q9.d,.slice q9.K y.kids.length q9.e] (0,0) _ rfl (set8 HX13.out) Try.underlying28 rfl (by kernel_rfl)) rfl ?_
 exact tm_ret (g:=w.heap.size+1+1+1) HT9.out (chg_set8 w3 (w.heap.size+1+1+1) (.int .i64 y.kind) (.int .i64 y.num) (.string y.name) (.int .i64 y.lv.kind) (.int .i64 y.lv.num) (.slice q9.A y.lv.kids.length q9.c) (.slice q9.B y.ls.length q9.d) (.slice q9.K y.kids.length q9.e)) hg0 (by omega) (by have:=HZ.out;omega) HB3.out

end Go.Proofs.Ytdboloabpjmgaaa

namespace Go.Proofs.Ytdboloabpjmgaaa
open Go.RowKit Go.Proofs.YtdboloabpjmgaaaW.PrintWords Go.RegionInvYtdboloabpjmgaaa Go.RegionEYtdboloabpjmgaaa

theorem TmS.pair {w:World} {S:Nat→Prop} {g:Nat} {pa pu:Pl} {a u:Tm} (h:w.heap[g]?=some (.cells (tmC pa a ++ tmC pu u).toArray 28 (0,0))) (hg:S g) (ha:TmS w S pa a) (hu:TmS w S pu u) (kk:Int) :
  TmS w S ⟨none,0,none,0,some ⟨g,0,none⟩,2⟩ (.mk kk 0 noName lv0 [] [a,u]):=by
 have hr:=lam_row (g0:=w.heap.size) h (TmS.all ha) (TmS.all hu)
 refine .mk (fun i=>if i=0 then pa else pu) (LvS.leaf _ _ _ _) (LvS.leaf _ _ _ _) (Nat.le_refl _) (show (2:Nat)≤9223372036854775807 by decide) ⟨by decide,by decide,by simp⟩ (fun i x hx=>?_) (fun i x hx=>?_)
 ·obtain ⟨b,o,e,-,hc⟩:=(hr i x hx).1
  have e2:=e
  injection e2 with e2
  injection e2 with e2
  subst e2
  exact ⟨g,o,e,hg,hc⟩
 ·by_cases h0:i=0
  ·subst h0
   obtain rfl:a=x:=by simpa using hx
   exact ha
  ·by_cases h1:i=1
   ·subst h1
    obtain rfl:u=x:=by simpa using hx
    exact hu
   ·exfalso
    have:=(List.getElem?_eq_some_iff.1 hx).1
    simp only [List.length_cons,List.length_nil] at this
    omega
def appT (f x:Tm):Tm:=.mk 6 0 noName lv0 [] [f,x]
def appsP (f:Tm) (xs:List Tm):Tm:=xs.foldl appT f
theorem appsP_snoc (f:Tm) (xs:List Tm) (x:Tm):appsP f (xs ++ [x])=appT (appsP f xs) x:=by unfold appsP;rw [List.foldl_append];rfl
def AppsT (f:Tm) (xs:List Tm):Tm:=if okT (appsP f xs) then ownT (appsP f xs) else zeroT
theorem AppsT_ok {f:Tm} {xs:List Tm} (h:okT (appsP f xs)):AppsT f xs=ownT (appsP f xs):=if_pos h
theorem AppsT_no {f:Tm} {xs:List Tm} (h:¬ okT (appsP f xs)):AppsT f xs=zeroT:=if_neg h
set_option maxRecDepth 100000 in
set_option maxHeartbeats 4000000 in
theorem Apps_calls (g0:Nat) (f:Tm) (pf:Pl) (L:Option Addr) (n c:Nat) (q:Nat→Pl) (xs:List Tm) (w:World) (hg0:g0≤w.heap.size) (hn:n=xs.length) (hn9:n≤140737488355328) (hf:TmIn w g0 pf f) (hin:TmsAt w g0 L q xs) :
  Calls Try.prog 16 #[tmV pf f,.slice L n c] w (TmGot w (fun k=>k<g0) (AppsT f xs)):=by
 have HIN:=Ak hin
 have HN:=Ak hn
 obtain ⟨W,hW⟩:∃ W,W=(w.alloc (tmO pf f)).alloc (outK 0 (.slice none 0 0)):=⟨_,rfl⟩
 have HB:=Ak (show Below w.heap.size w W by rw [hW];exact below_alloc (below_alloc (Below.refl _ _) _) _)
 have HO:=Ak (show W.heap[w.heap.size]?=some (tmO pf f) by rw [hW];exact box0 w _ _)
 have HX:=Ak (show W.heap[w.heap.size+1]?=some (outK 0 (.slice none 0 0)) by rw [hW];exact box1 w _ _)
 have HZ:=Ak (show W.heap.size=w.heap.size+1+1 by rw [hW];simp)
 have HF:=Ak (show TmS W (fun k=>k<g0∨w.heap.size+1+1≤k) pf f from TmS.mono (TmIn.stay hf (HB.out.mono hg0)) fun k h _=>.inl h)
 obtain ⟨y,hy⟩:∃ y,y=AppsT f xs:=⟨_,rfl⟩
 have HY:=Ak hy
 rw [← hy]
 clear hin hn hy hf
 unfold tmV
 unfold tmO at hW
 go_enter Try.func16,Try.ntmps16
 go_upto_region 1 with (fail)
 rw [← hW]
 clear hW
 go_wp2
 go_loopw [9] (fun i wr=>∃ (k:Nat) (p:Pl),i=.int .i64 k∧k≤n∧Aside0 (wr.heap[w.heap.size]?=some (tmO p (appsP f (xs.take k))))∧Aside0 (wr.heap[w.heap.size+1]?=some (outK 0 (.slice none 0 0)))∧Aside0 (TmS wr (fun k=>k<g0∨w.heap.size+1+1≤k) p (appsP f (xs.take k)))∧Aside0 (Below w.heap.size w wr)∧w.heap.size+1+1≤wr.heap.size) (fun i _=>n - (intOf i).toNat)
 case atStart=>exact ⟨0,pf,rfl,Nat.zero_le _,HO,HX,HF,HB,by have:=HZ.out;omega⟩
 case round =>
  clear HB HX HO HF HZ
  obtain ⟨k,p,rfl,hk,HO,HX,HF,HB,hzw⟩:=hrel
  by_cases hlt:k<n
  ·have hlt2:k<xs.length:=by rw [← HN.out];exact hlt
   obtain ⟨x,hx⟩:∃ x,xs[k]?=some x:=⟨_,List.getElem?_eq_getElem hlt2⟩
   have HTK:=Ak (show appsP f (xs.take (k+1))=appT (appsP f (xs.take k)) x by rw [List.take_add_one,hx,← appsP_snoc];rfl)
   obtain ⟨z,hz⟩:∃ z,z=appsP f (xs.take k):=⟨_,rfl⟩
   rw [← hz] at HTK HO HF
   obtain ⟨⟨bk,oo,hL,hSb,hcells⟩,hxin⟩:=HIN.out k x hx
   have hbk:∀ j v,(tmC (q k) x)[j]?=some v→wr.cell? ⟨bk,oo+k * 8+j,none⟩=some v:=fun j v hv=>(cell_same (HB.out.block bk hSb)).trans (hcells j v hv)
   have d0:=hbk 0 _ rfl
   have d1:=hbk 1 _ rfl
   have d2:=hbk 2 _ rfl
   have d3:=hbk 3 _ rfl
   have d4:=hbk 4 _ rfl
   have d5:=hbk 5 _ rfl
   have d6:=hbk 6 _ rfl
   have d7:=hbk 7 _ rfl
   rw [Nat.add_zero] at d0
   have HLL:=Ak hL
   have HXIN:=Ak (TmIn.stay hxin (HB.out.mono hg0))
   rw [hL]
   clear hL hcells hbk hx hlt2 hxin hz
   go_upto_region 4 with (fail)
   obtain ⟨W5,hW5⟩:∃ W5,W5=wr.alloc (tmO (q k) x):=⟨_,rfl⟩
   have hB5:Below wr.heap.size wr W5:=by rw [hW5];exact below_alloc (Below.refl _ _) _
   have HBX5:=Ak (show W5.heap[wr.heap.size]?=some (tmO (q k) x) by rw [hW5];exact blk_new _ _)
   have HO5:=Ak ((hB5.block _ (by omega)).trans HO.out)
   have HX5:=Ak ((hB5.block _ (by omega)).trans HX.out)
   have HIN5:=Ak (TmIn.stay HXIN.out (hB5.mono (by omega)))
   have HF5:=Ak (HF.out.later hB5)
   have HBW5:=Ak (below_then HB.out HB.out.size hB5)
   have hz5:wr.heap.size<W5.heap.size:=blk_lt HBX5.out
   clear hB5
   unfold tmO at hW5
   rw [← hW5]
   clear hW5 HO HX HF d0 d1 d2 d3 d4 d5 d6 d7
   obtain ⟨o0,o1,o2,o3,o4,o5,o6,o7,f0,f1,f2,f3,f4,f5,f6,f7⟩:=row8c HO5.out
   obtain ⟨b0,b1,b2,b3,b4,b5,b6,b7⟩:=row8 HBX5.out
   have hzw5:w.heap.size<W5.heap.size:=by omega
   go_wp2
   go_roundw
   case rel =>
    clear o0 o1 o2 o3 o4 o5 o6 o7 f0 f1 f2 f3 f4 f5 f6 f7 b0 b1 b2 b3 b4 b5 b6 b7
    have hch:=chg_set8 W5 (w.heap.size) (.int .i64 6) (.int .i64 0) (.string ⟨#[]⟩) (.int .i64 0) (.int .i64 0) (.slice none 0 0) (.slice none 0 0) (.slice (some ⟨W5.heap.size,0,none⟩) 2 2)
    have hs8:=set8 (a0:=.int .i64 6) (a1:=.int .i64 0) (a2:=.string ⟨#[]⟩) (a3:=.int .i64 0) (a4:=.int .i64 0) (a5:=.slice none 0 0) (a6:=.slice none 0 0) (a7:=.slice (some ⟨W5.heap.size,0,none⟩) 2 2) HO5.out
    obtain ⟨WS,hWS⟩:∃ WS,WS=((((((((W5.setCell ⟨w.heap.size,0,none⟩ (.int .i64 6)).setCell ⟨w.heap.size,1,none⟩ (.int .i64 0)).setCell ⟨w.heap.size,2,none⟩ (.string ⟨#[]⟩)).setCell ⟨w.heap.size,3,none⟩ (.int .i64 0)).setCell ⟨w.heap.size,4,none⟩ (.int .i64 0)).setCell ⟨w.heap.size,5,none⟩ (.slice none 0 0)).setCell ⟨w.heap.size,6,none⟩ (.slice none 0 0)).setCell ⟨w.heap.size,7,none⟩ (.slice (some ⟨W5.heap.size,0,none⟩) 2 2)):=⟨_,rfl⟩
    have hsz:WS.heap.size=W5.heap.size:=by rw [hWS];simp
    rw [← hWS] at hch hs8 ⊢
    clear hWS
    obtain ⟨W9,hW9⟩:∃ W9,W9=WS.alloc (.cells (tmC p z ++ tmC (q k) x).toArray 28 (0,0)):=⟨_,rfl⟩
    have hW9':W9=_:=hW9
    simp only [tmC,List.cons_append,List.nil_append] at hW9'
    rw [← hW9']
    have hb9:Below WS.heap.size WS W9:=by rw [hW9];exact below_alloc (Below.refl _ _) _
    have hR9:W9.heap[W5.heap.size]?=some (.cells (tmC p z ++ tmC (q k) x).toArray 28 (0,0)):=by rw [hW9,← hsz];exact blk_new _ _
    clear hW9 hW9'
    have hst:∀ j,j<W5.heap.size→j≠w.heap.size→W9.heap[j]?=W5.heap[j]?:=fun j h1 h2=>(hb9.block j (by omega)).trans (hch.block j h1 h2)
    have hO9:W9.heap[w.heap.size]?=some (tmO ⟨none,0,none,0,some ⟨W5.heap.size,0,none⟩,2⟩ (appT z x)):=(hb9.block _ (by omega)).trans hs8
    have hX9:=(hst (w.heap.size+1) (by omega) (by omega)).trans HX5.out
    have hz9:TmS W9 (fun k=>k<g0∨w.heap.size+1+1≤k) p z:=HF5.out.same fun j h1 h2=>hst j h2 (by omega)
    have hx9:TmS W9 (fun k=>k<g0∨w.heap.size+1+1≤k) (q k) x:=(TmS.same HIN5.out fun j h1 h2=>hst j h2 (by omega)).mono fun j h _=>.inl h
    have hb0:Below w.heap.size w WS:=Chg.trans_below HBW5.out hch (fun _ e=>by omega) HBW5.out.size
    have hB9:=below_then hb0 hb0.size hb9
    have hzz:=hB9.size
    have hz99:=hb9.size
    exact ⟨k+1,_,by go_num,by omega,⟨by rw [HTK.out];exact hO9⟩,⟨hX9⟩,⟨by rw [HTK.out];exact TmS.pair hR9 (.inr (by omega)) hz9 hx9 6⟩,⟨hB9⟩,by omega⟩
   case measure=>(simp [intOf];try omega)
  ·obtain rfl:k=n:=by omega
   have hlt':decide ((k:Int)<k)=false:=by simp
   have hfull:xs.take k=xs:=List.take_of_length_le (by rw [HN.out];exact Nat.le_refl _)
   rw [hfull] at HO HF
   clear hfull HIN HN
   obtain ⟨z,hz⟩:∃ z,z=appsP f xs:=⟨_,rfl⟩
   rw [← hz] at HO HF
   have HZE:=Ak hz
   clear hz
   have HGE:=Ak (great_eq z)
   have hzr:w.heap.size<wr.heap.size:=by omega
   by_cases hk:okT z
   ·have HG:=Ak (show greatB z=false by rw [HGE.out];simp [hk])
    have HYO:=Ak (show y=ownT z by rw [HY.out,HZE.out];rw [HZE.out] at hk;exact AppsT_ok hk)
    clear hk
    go_upto_region 8 with (first
     | (refine wpList_load_row rfl 28 _ rfl (w.heap.size) rfl 28 _ (0,0) _ HO.out Try.underlying28 rfl (by kernel_rfl) ?_)
     | (go_at_call 55;go_must (refine (great_calls z p wr (TmS.all HF.out)).mono ?_;rintro e w7 ⟨rfl,hb⟩;rw [HG.out];have HO7:=Ak ((hb.block _ (blk_lt HO.out)).trans HO.out);have HX7:=Ak ((hb.block _ (blk_lt HX.out)).trans HX.out);have HF7:=Ak (TmS.mono (S':=fun k=>(k<g0∨w.heap.size+1+1≤k)∧k<w7.heap.size) (HF.out.later hb) fun k h hz=>⟨h,hz⟩);have HB7:=Ak (below_then HB.out HB.out.size hb);have hz7:=hb.size;clear hb)))
    go_wp2_with (first
     | (refine wpList_load_row rfl 28 _ rfl (w.heap.size) rfl 28 _ (0,0) _ HO7.out Try.underlying28 rfl (by kernel_rfl) ?_)
     | (go_at_call 56;go_must (refine (townS_calls _ w7.heap.size z p w7 (Nat.le_refl _) (fun k h=>h.2) HF7.out).mono ?_;rw [← HYO.out];rintro e w3 ⟨q9,rfl,ht9,hb3⟩;have HT9:=Ak (TmS.mono (S':=fun k=>k<g0∨w.heap.size+1+1≤k) ht9 fun k h _=>h.elim (fun h=>h.1) fun h=>.inr (by omega));have hX13:=(hb3.block _ (blk_lt HX7.out)).trans HX7.out;have HX13:=Ak hX13;have HB3:=Ak (below_then HB7.out HB7.out.size hb3);obtain ⟨r0,r1,r2,r3,r4,r5,r6,r7,f0,f1,f2,f3,f4,f5,f6,f7⟩:=row8c hX13;clear ht9 hb3 hX13;unfold tmV)))
    refine bodyPost_ret (results_c rfl _ _ (w.heap.size+1) 28 #[.int .i64 y.kind,.int .i64 y.num,.string y.name,.int .i64 y.lv.kind,.int .i64 y.lv.num,.slice q9.A y.lv.kids.length q9.c,.slice q9.B y.ls.length q9.d,.slice q9.K y.kids.length q9.e] (0,0) _ rfl (set8 HX13.out) Try.underlying28 rfl (by kernel_rfl)) rfl ?_
    exact tm_ret (g:=w.heap.size+1) HT9.out (chg_set8 w3 (w.heap.size+1) (.int .i64 y.kind) (.int .i64 y.num) (.string y.name) (.int .i64 y.lv.kind) (.int .i64 y.lv.num) (.slice q9.A y.lv.kids.length q9.c) (.slice q9.B y.ls.length q9.d) (.slice q9.K y.kids.length q9.e)) hg0 (by omega) (by omega) HB3.out
   ·have HG:=Ak (show greatB z=true by rw [HGE.out];simp [hk])
    obtain rfl:zeroT=y:=by rw [HY.out];rw [HZE.out] at hk;exact (AppsT_no hk).symm
    clear hk
    go_upto_region 7 with (first
     | (refine wpList_load_row rfl 28 _ rfl (w.heap.size) rfl 28 _ (0,0) _ HO.out Try.underlying28 rfl (by kernel_rfl) ?_)
     | (go_at_call 55;go_must (refine (great_calls z p wr (TmS.all HF.out)).mono ?_;rintro e w7 ⟨rfl,hb⟩;rw [HG.out];have HX7:=Ak ((hb.block _ (blk_lt HX.out)).trans HX.out);have HB7:=Ak (below_then HB.out HB.out.size hb);have hz7:=hb.size;clear hb)))
    obtain ⟨r0,r1,r2,r3,r4,r5,r6,r7,f0,f1,f2,f3,f4,f5,f6,f7⟩:=row8c HX7.out
    go_wp2
    refine bodyPost_ret (results_c rfl _ _ (w.heap.size+1) 28 #[.int .i64 0,.int .i64 0,.string ⟨#[]⟩,.int .i64 0,.int .i64 0,.slice none 0 0,.slice none 0 0,.slice none 0 0] (0,0) _ rfl (set8 HX7.out) Try.underlying28 rfl (by kernel_rfl)) rfl ?_
    exact tm_ret (g:=w.heap.size+1) (m:=w.heap.size+1+1) (TmS.zero w7 _) (chg_set8 w7 (w.heap.size+1) (.int .i64 0) (.int .i64 0) (.string ⟨#[]⟩) (.int .i64 0) (.int .i64 0) (.slice none 0 0) (.slice none 0 0) (.slice none 0 0)) hg0 (by omega) (by omega) HB7.out

end Go.Proofs.Ytdboloabpjmgaaa

namespace Go.Proofs.Ytdboloabpjmgaaa
open Go.RowKit Go.Proofs.YtdboloabpjmgaaaW.PrintWords Go.RegionInvYtdboloabpjmgaaa Go.RegionEYtdboloabpjmgaaa

theorem reb_lam (RF:Tm→Int→Tm) (n:Int) (nm:ByteArray) (lv:Lv) (ls:List Lv) (x y:Tm) (b:Int):rebP RF (.mk 4 n nm lv ls [x,y]) b=.mk 4 0 noName lv0 [] [rebP RF x (b+0),rebP RF y (b+1)]:=(reb_node rfl).trans rfl
theorem reb_app (RF:Tm→Int→Tm) (n:Int) (nm:ByteArray) (lv:Lv) (ls:List Lv) (x y:Tm) (b:Int):rebP RF (.mk 6 n nm lv ls [x,y]) b=.mk 6 0 noName lv0 [] [rebP RF x (b+0),rebP RF y (b+0)]:=(reb_node rfl).trans rfl
theorem size_lam (n:Int) (nm:ByteArray) (lv:Lv) (ls:List Lv) (x y:Tm):sizeT (.mk 4 n nm lv ls [x,y])=1+(sizeT x+(sizeT y+0)):=by rw [sizeT];rfl
theorem size_app (n:Int) (nm:ByteArray) (lv:Lv) (ls:List Lv) (x y:Tm):sizeT (.mk 6 n nm lv ls [x,y])=1+(sizeT x+(sizeT y+0)):=by rw [sizeT];rfl
theorem depth_lam (n:Int) (nm:ByteArray) (lv:Lv) (ls:List Lv) (x y:Tm):depthT (.mk 4 n nm lv ls [x,y])=1+max (depthT x) (max (depthT y) 0):=by rw [depthT];rfl
theorem depth_app (n:Int) (nm:ByteArray) (lv:Lv) (ls:List Lv) (x y:Tm):depthT (.mk 6 n nm lv ls [x,y])=1+max (depthT x) (max (depthT y) 0):=by rw [depthT];rfl
def aC (c:UInt8):Tm:=.mk 7 0 ⟨#[c]⟩ lv0 [] []
theorem cons_aC (c:UInt8):consT ⟨#[c]⟩ []=aC c:=rfl
theorem nK_aC (c:UInt8):nK (aC c)=0:=rfl
theorem nK_var (n:Int):nK (varT n)=0:=rfl
theorem ok_aC (c:UInt8):okT (aC c):=⟨by rw [size_leaf (nK_aC c)];decide,by rw [depth_leaf (nK_aC c)];decide⟩
theorem own_aC (c:UInt8):ownT (aC c)=aC c:=(ownT_ok (ok_aC c)).trans ((reb_leaf rfl).trans rfl)
theorem ok_app {x y:Tm} (hx:nK x=0) (hy:nK y=0):okT (appT x y):=⟨by rw [appT,size_app,size_leaf hx,size_leaf hy];decide,by rw [appT,depth_app,depth_leaf hx,depth_leaf hy];decide⟩
theorem own_app:ownT (appT (varT 1) (varT 0))=appT (varT 1) (varT 0):=by
 rw [ownT_ok (ok_app (nK_var 1) (nK_var 0)),appT,reb_app,reb_leaf rfl,reb_leaf rfl,nodeP_var rfl,nodeP_var rfl];rfl
theorem apps_a:AppsT (varT 1) [varT 0]=appT (varT 1) (varT 0):=(AppsT_ok (f:=varT 1) (xs:=[varT 0]) (ok_app (nK_var 1) (nK_var 0))).trans own_app
def aL:Tm:=.mk 4 0 noName lv0 [] [aC 97,appT (varT 1) (varT 0)]
theorem made_a:madeT 4 [aC 97,appT (varT 1) (varT 0)]=aL:=by
 show Tm.mk 4 0 noName lv0 [] [ownT (aC 97),ownT (appT (varT 1) (varT 0))]=aL
 rw [own_aC,own_app];rfl
theorem ok_lam {c x y:Tm} (hc:nK c=0) (hx:nK x=0) (hy:nK y=0):okT (.mk 4 0 noName lv0 [] [c,appT x y]):=
 ⟨by rw [size_lam,appT,size_app,size_leaf hc,size_leaf hx,size_leaf hy];decide,by rw [depth_lam,appT,depth_app,depth_leaf hc,depth_leaf hx,depth_leaf hy];decide⟩
def aY:Tm:=.mk 4 0 noName lv0 [] [aC 97,appT (aC 99) (varT 0)]
theorem inst_a:InstT aL (aC 99)=aY:=by
 have hs:instS aL (aC 99)≤20000:=by
  unfold instS
  rw [size_leaf (nK_aC 99),aL,size_lam,appT,size_app,size_leaf (nK_aC 97),size_leaf (nK_var 1),size_leaf (nK_var 0)]
  simp
 rw [InstT_ok (t:=aL) (ok_lam (nK_aC 97) (nK_var 1) (nK_var 0)) (ok_aC 99) hs]
 have e:rebP (instF (aC 99)) aL 0=aY:=by
  rw [aL,appT,reb_lam,reb_app,reb_leaf rfl,reb_leaf rfl,reb_leaf rfl,instF_hit (b:=0+1+0) rfl rfl,instF_near (t:=varT 0) (by decide)]
  rw [show liftT 0 (0+1+0) (aC 99)=aC 99 from (reb_leaf rfl).trans rfl,nodeP_var rfl]
  rfl
 rw [e,fitT_ok (t:=aY) (ok_lam (nK_aC 97) (nK_aC 99) (nK_var 0))]
theorem one_row {w:World} {g:Nat} {p:Pl} {t:Tm} (h:w.heap[g]?=some (tmO p t)) (ht:TmIn w w.heap.size p t):TmsAt w w.heap.size (some ⟨g,0,none⟩) (fun _=>p) [t]:=by
 have hg:=blk_lt h
 intro i x hx
 have hi:i=0:=by
  have:=(List.getElem?_eq_some_iff.1 hx).1
  simp only [List.length_cons,List.length_nil] at this
  omega
 subst hi
 obtain rfl:t=x:=by simpa using hx
 refine ⟨⟨g,0,rfl,hg,fun j v hv=>?_⟩,ht⟩
 rw [show 0+0 * 8+j=j by omega,cell_of_row _ _ _ _ _ _ h]
 have e:(tmC p t).toArray[j]?=(tmC p t)[j]?:=List.getElem?_toArray
 exact e.trans hv
set_option maxRecDepth 100000 in
set_option maxHeartbeats 4000000 in
theorem awake_calls (w:World):Calls Try.prog 25 #[] w fun e w'=>e=.returned (.bool true)∧Below w.heap.size w w':=by
 obtain ⟨ca,hca⟩:∃ x,x=consT ⟨#[97]⟩ []:=⟨_,rfl⟩
 obtain ⟨cc,hcc⟩:∃ x,x=consT ⟨#[99]⟩ []:=⟨_,rfl⟩
 obtain ⟨v1,hv1⟩:∃ x,x=varT 1:=⟨_,rfl⟩
 obtain ⟨v0,hv0⟩:∃ x,x=varT 0:=⟨_,rfl⟩
 obtain ⟨ap,hap⟩:∃ x,x=AppsT v1 [v0]:=⟨_,rfl⟩
 obtain ⟨la,hla⟩:∃ x,x=madeT 4 [ca,ap]:=⟨_,rfl⟩
 obtain ⟨y,hy⟩:∃ x,x=InstT la cc:=⟨_,rfl⟩
 have HY:=Ak (show y=aY by rw [hy,hla,hap,hca,hcc,hv1,hv0,cons_aC,cons_aC,apps_a,made_a,inst_a])
 have HCA:=Ak hca
 have HCC:=Ak hcc
 have HV1:=Ak hv1
 have HV0:=Ak hv0
 have HAP:=Ak hap
 have HLA:=Ak hla
 have HYI:=Ak hy
 clear hca hcc hv1 hv0 hap hla hy
 go_enter Try.func25,Try.ntmps25
 go_upto_region 2 with (first
  | (go_at_call 28;(refine (TmGot.as (tconst_calls 0 ⟨#[97]⟩ none 0 0 [] w (Nat.zero_le _) rfl (by decide) (by decide) (LvS.leaf _ _ _ _)) HCA.out.symm).mono ?_;rintro e w1 ⟨q1,rfl,ht,hb⟩;have HT1:=Ak (TmS.all ht);have HB1:=Ak (hb);have HS1:=Ak hb;clear ht hb;unfold tmV))
  | (go_at_call 14;(refine (TmGot.as (tvar_calls 0 1 w1 (by decide)) HV1.out.symm).mono ?_;rintro e w2 ⟨q2,rfl,ht,hb⟩;have HT2:=Ak (TmS.all ht);have HB2:=Ak (below_then HB1.out HB1.out.size hb);have HS2:=Ak hb;clear ht hb;unfold tmV))
  | (go_at_call 14;(refine (TmGot.as (tvar_calls 0 0 w2 (by decide)) HV0.out.symm).mono ?_;rintro e w3 ⟨q3,rfl,ht,hb⟩;have HT3:=Ak (TmS.all ht);have HB3:=Ak (below_then HB2.out HB2.out.size hb);have HS3:=Ak hb;clear ht hb;unfold tmV))
  | (have hrow:=Ak (show (w3.alloc (tmO q3 v0)).heap[w3.heap.size]?=some (tmO q3 v0) from blk_new _ _);have HBR:=Ak (show Below w3.heap.size w3 (w3.alloc (tmO q3 v0)) from below_alloc (Below.refl _ _) _);obtain ⟨W,hW⟩:∃ W,W=w3.alloc (tmO q3 v0):=⟨_,rfl⟩;rw [← hW] at hrow HBR;unfold tmO at hW;rw [← hW];clear hW;have HBW:=Ak (below_then HB3.out HB3.out.size HBR.out);have HV1W:=Ak (TmS.all ((HT2.out.later HS3.out).later HBR.out));have HV0W:=Ak (TmS.all (HT3.out.later HBR.out));have HCAW:=Ak (TmS.all (((HT1.out.later HS2.out).later HS3.out).later HBR.out));(go_at_call 16;(refine (TmGot.as (Apps_calls W.heap.size v1 q2 (some ⟨w3.heap.size,0,none⟩) 1 1 _ [v0] W (Nat.le_refl _) rfl (by decide) HV1W.out (one_row hrow.out HV0W.out)) HAP.out.symm).mono ?_;rintro e w4 ⟨q4,rfl,ht,hb⟩;have HT4:=Ak (TmS.all ht);have HB4:=Ak (below_then HBW.out HBW.out.size hb);have HS4:=Ak hb;clear ht hb;unfold tmV)))
  | (go_at_call 31;(refine (TmGot.as (lam_calls w4.heap.size q1 ca q4 ap w4 (Nat.le_refl _) (TmS.all (HCAW.out.later HS4.out)) HT4.out) HLA.out.symm).mono ?_;rintro e w5 ⟨q5,rfl,ht,hb⟩;have HT5:=Ak (TmS.all ht);have HB5:=Ak (below_then HB4.out HB4.out.size hb);have HS5:=Ak hb;clear ht hb;unfold tmV))
  | (go_at_call 28;(refine (TmGot.as (tconst_calls 0 ⟨#[99]⟩ none 0 0 [] w5 (Nat.zero_le _) rfl (by decide) (by decide) (LvS.leaf _ _ _ _)) HCC.out.symm).mono ?_;rintro e w6 ⟨q6,rfl,ht,hb⟩;have HT6:=Ak (TmS.all ht);have HB6:=Ak (below_then HB5.out HB5.out.size hb);have HS6:=Ak hb;clear ht hb;unfold tmV))
  | (go_at_call 17;(refine (TmGot.as (Inst_calls w6.heap.size la cc q5 q6 w6 (Nat.le_refl _) (TmS.all (HT5.out.later HS6.out)) HT6.out) HYI.out.symm).mono ?_;rintro e w7 ⟨q7,rfl,ht,hb⟩;have HT7:=Ak (TmS.all ht);have HB7:=Ak (below_then HB6.out HB6.out.size hb);have HS7:=Ak hb;clear ht hb;unfold tmV)))
 obtain ⟨W8,hW8⟩:∃ W8,W8=w7.alloc (tmO q7 y):=⟨_,rfl⟩
 have hb8:Below w7.heap.size w7 W8:=by rw [hW8];exact below_alloc (Below.refl _ _) _
 have HT8:=Ak (TmS.later HT7.out hb8)
 have HO8:=Ak (show W8.heap[w7.heap.size]?=some (tmO q7 y) by rw [hW8];exact blk_new _ _)
 have HB8:=Ak (below_then HB7.out HB7.out.size hb8)
 unfold tmO at hW8
 rw [← hW8]
 clear hW8 hb8
 clear HT1 HT2 HT3 HT4 HT5 HT6 HT7 HB1 HB2 HB3 HB4 HB5 HB6 HB7 HS1 HS2 HS3 HS4 HS5 HS6 HS7 hrow HBR HBW HV1W HV0W HCAW
 have hT:=HT8.out
 rw [HY.out] at hT
 obtain ⟨qk,hk⟩:=hT.kid
 obtain ⟨⟨b,o,hK,-,hc⟩,hT1⟩:=hk 1 (appT (aC 99) (varT 0)) rfl
 obtain ⟨qq,hkk⟩:=hT1.kid
 obtain ⟨⟨b0,o0,hK0,-,hc0⟩,-⟩:=hkk 0 (aC 99) rfl
 obtain ⟨⟨b1,o1,hK1,-,hc1⟩,-⟩:=hkk 1 (varT 0) rfl
 obtain ⟨k0,k1,k2,k3,k4,k5,k6,k7⟩:=row8 HO8.out
 obtain ⟨rfl,rfl⟩:b0=b1∧o0=o1:=by
  have e:=hK0.symm.trans hK1
  injection e with e
  injection e with e1 e2
  exact ⟨e1,e2⟩
 have m0:W8.cell? ⟨w7.heap.size,0,none⟩=some (.int .i64 4):=by rw [HY.out] at k0;exact k0
 have m7:W8.cell? ⟨w7.heap.size,7,none⟩=some (.slice (some ⟨b,o,none⟩) 2 q7.e):=by rw [HY.out,hK] at k7;exact k7
 have d7:W8.cell? ⟨b,o+8+7,none⟩=some (.slice (some ⟨b0,o0,none⟩) 2 (qk 1).e):=by have:=hc 7 _ rfl;rw [hK0] at this;exact this
 have n2:W8.cell? ⟨b0,o0+2,none⟩=some (.string ⟨#[99]⟩):=hc0 2 _ rfl
 have n1:W8.cell? ⟨b0,o0+8+1,none⟩=some (.int .i64 0):=hc1 1 _ rfl
 have d7':W8.cell? ⟨b,o+15,none⟩=some (.slice (some ⟨b0,o0,none⟩) 2 (qk 1).e):=d7
 have n1':W8.cell? ⟨b0,o0+9,none⟩=some (.int .i64 0):=n1
 clear k0 k1 k2 k3 k4 k5 k6 k7 hk hkk hc hc0 hc1 hT hT1 hK hK0 hK1
 go_wp2
 go_ret
 exact ⟨rfl,HB8.out⟩

end Go.Proofs.Ytdboloabpjmgaaa

namespace Go.Proofs.Ytdboloabpjmgaaa
open Go.RowKit Go.Proofs.YtdboloabpjmgaaaW.PrintWords Go.RegionInvYtdboloabpjmgaaa

def mayF (v:Int) (l:Lv) (d s:Int):Int × Int:=
 if 32<d∨100<s+1 then (2,s+1) else if l.kind=2∧l.kids=[] then (if l.num<0∨v≤l.num then (10,s+1) else (0,s+1)) else if rightP l 1048576 0=false then (1,s+1) else (0,s+1)
theorem NumAt.chg {w w':World} {g gv:Nat} {s:Int} (h:NumAt w gv s) (hc:Chg (fun k=>k=g) w w') (hne:g≠gv):NumAt w' gv s:=(hc.block gv (blk_lt h) (fun e=>hne e.symm)).trans h
end Go.Proofs.Ytdboloabpjmgaaa

namespace Go.Proofs.Ytdboloabpjmgaaa
open Go.RowKit Go.Proofs.YtdboloabpjmgaaaW.PrintWords Go.RegionInvYtdboloabpjmgaaa

def IntsS (w:World) (S:Nat→Prop) (A:Option Addr) (n:Nat) (ks:List Int):Prop:=ReadsInt w .i64 A n ks∧(0<n→∃ ad,A=some ad∧S ad.block)
theorem IntsS.same {w w':World} {S:Nat→Prop} {A:Option Addr} {n:Nat} {ks:List Int} (h:IntsS w S A n ks) (hs:∀ k,S k→k<w.heap.size→w'.heap[k]?=w.heap[k]?):IntsS w' S A n ks:=by
 refine ⟨⟨h.1.1,h.1.2.1,fun hn=>?_⟩,h.2⟩
 obtain ⟨ad,e,hc⟩:=h.1.2.2 hn
 obtain ⟨ad',e',hS⟩:=h.2 hn
 rw [e] at e'
 obtain rfl:=Option.some.inj e'
 refine ⟨ad,e,fun j hj=>?_⟩
 have hb:(ad.add j).block=ad.block:=add_block _ _
 have hx:=hc j hj
 exact (cell_same (w:=w) (w':=w') (by rw [hb];exact hs _ hS (by have:=World.block_lt_of_cell? w _ hx;rwa [hb] at this))).trans hx
theorem IntsS.later {w w':World} {S:Nat→Prop} {A:Option Addr} {n:Nat} {ks:List Int} (h:IntsS w S A n ks) (hb:Below w.heap.size w w'):IntsS w' S A n ks:=h.same fun k _ hk=>hb.block k hk
theorem IntsS.mono {w:World} {S S':Nat→Prop} {A:Option Addr} {n:Nat} {ks:List Int} (h:IntsS w S A n ks) (hS:∀ k,S k→k<w.heap.size→S' k):IntsS w S' A n ks:=by
 refine ⟨h.1,fun hn=>?_⟩
 obtain ⟨ad,e,hs⟩:=h.2 hn
 obtain ⟨ad',e',hc⟩:=h.1.2.2 hn
 rw [e] at e'
 obtain rfl:=Option.some.inj e'
 exact ⟨ad,e,hS _ hs (by have:=World.block_lt_of_cell? w _ (hc 0 hn);rwa [add_block] at this)⟩
theorem IntsS.nil (w:World) (S:Nat→Prop):IntsS w S none 0 []:=⟨⟨rfl,by omega,fun h=>absurd h (by omega)⟩,fun h=>absurd h (by omega)⟩
def atP (ks:List Int) (i:Int):Int:=if i<ks.length then rd ks i else -1
def addN (k x:Int):Int:=if 0≤x then min 1099511627776 (x+k) else x
def plusN (k:Int) (f:Int × List Int):Int × List Int:=(min 1099511627776 (f.1+k),f.2.map (addN k))
end Go.Proofs.Ytdboloabpjmgaaa

namespace Go.Proofs.Ytdboloabpjmgaaa
open Go.RowKit Go.Proofs.YtdboloabpjmgaaaW.PrintWords Go.RegionInvYtdboloabpjmgaaa

set_option maxHeartbeats 2000000 in
theorem arity_calls (k:Int) (w:World):Calls Try.prog 115 #[.int .i64 k] w fun e w'=>e=.returned (.int .i64 (arityP k))∧w'=w:=by
 go_enter Try.func115,Try.ntmps115
 by_cases h1:k=1
 ·have H:=Ak (arity_12 (.inl h1))
  have e1:(k == 1)=true:=by simp [h1]
  clear h1
  go_wp2
  go_ret
  exact ⟨by rw [H.out];rfl,rfl⟩
 ·have e1:(k == 1)=false:=by simp [h1]
  by_cases h2:k=2
  ·have H:=Ak (arity_12 (.inr h2))
   have e2:(k == 2)=true:=by simp [h2]
   clear h1 h2
   go_wp2
   go_ret
   exact ⟨by rw [H.out];rfl,rfl⟩
  ·have e2:(k == 2)=false:=by simp [h2]
   by_cases h3:k=3
   ·have H:=Ak (show arityP k=1 by rw [h3];decide)
    have e3:(k == 3)=true:=by simp [h3]
    clear h1 h2 h3
    go_wp2
    go_ret
    exact ⟨by rw [H.out];rfl,rfl⟩
   ·have e3:(k == 3)=false:=by simp [h3]
    by_cases h4:k=4
    ·have H:=Ak (show arityP k=2 by rw [h4];decide)
     have e4:(k == 4)=true:=by simp [h4]
     clear h1 h2 h3 h4
     go_wp2
     go_ret
     exact ⟨by rw [H.out];rfl,rfl⟩
    ·have H:=Ak (arity_no h1 h2 h3 h4)
     have e4:(k == 4)=false:=by simp [h4]
     clear h1 h2 h3 h4
     go_wp2
     go_ret
     exact ⟨by rw [H.out];rfl,rfl⟩


end Go.Proofs.Ytdboloabpjmgaaa

namespace Go.Proofs.Ytdboloabpjmgaaa
open Go.RowKit Go.Proofs.YtdboloabpjmgaaaW.PrintWords Go.RegionInvYtdboloabpjmgaaa

theorem one_ne {s:Int}:((1:Int),s).1≠0:=by show (1:Int)≠0;decide
theorem ref_bit {b:Bool} {s:Int}:(((if b=true then (0:Int) else 1),s).1 == 0)=b:=by cases b <;> rfl
theorem ref_leaf {k n:Int} {ks:List Lv} {d s:Int} (hk:k=1∨k=2) (hm:(ks.length:Int)=arityP k) (hd:d≤256) (hs:s+1≤1000):walkP sndF (.mk k n ks) d s=((if rightP (.mk k n ks) 1099511627776 1000=true then (0:Int) else 1),s+1):=by
 rw [arity_12 hk] at hm
 obtain rfl:ks=[]:=List.eq_nil_of_length_eq_zero (by omega)
 cases hR:rightP (.mk k n []) 1099511627776 1000 with
 | false =>
  have h:=sndF_bad (l:=.mk k n []) (d:=d) (s:=s) (.inr (.inr hR))
  rw [walkP_stop (by rw [h];exact one_ne),h];rfl
 | true =>
  have h:=sndF_ok (l:=.mk k n []) (d:=d) (s:=s) (by rw [hR];simp;omega)
  rw [walkP_go (by rw [h]),h];rfl
def RefPost (w:World) (g:Nat) (r:Int × Int) (e:Ending) (w':World):Prop:=e=.returned (.bool (r.1 == 0))∧NumAt w' g r.2∧Chg (fun k=>k=g) w w'
set_option maxHeartbeats 4000000 in
theorem ref_sound (N:Nat):∀ (l:Lv),SizeOf.sizeOf l<N→∀ (A:Option Addr) (c:Nat) (d s:Int) (g B:Nat) (w:World),LvIn w B A c l→NumAt w g s→B≤g→0≤s→s≤1000→0≤d→d≤257 →
  Calls Try.prog 103 #[lvV A c l,.int .i64 d,.pointer (some ⟨g,0,none⟩)] w (RefPost w g (walkP sndF l d s)):=by
 induction N with
 | zero=>intro l h;omega
 | succ N ih =>
  rintro ⟨lk,ln,ks⟩ hN A c d s g B w hin hg hBg hs0 hs1 hd0 hd1
  have IH:=Ak ih
  have HIN:=Ak hin
  have HG:=Ak hg
  have hcell:=hg.cell
  have hfz:=blk_frozen hg 0
  have hlen:=hin.len
  simp only [Lv.kids] at hlen
  have hl9:ks.length≤9223372036854775807:=by omega
  have hglt:=blk_lt hg
  have hgne:g≠w.heap.size:=Nat.ne_of_lt hglt
  clear ih hin hg hlen
  unfold lvV
  simp only [Lv.kind,Lv.num,Lv.kids]
  obtain ⟨m,hm⟩:∃ m,m=ks.length:=⟨_,rfl⟩
  rw [← hm] at hl9 ⊢
  have HM:=Ak hm
  clear hm
  have hfin:NumAt ((w.setCell ⟨g,0,none⟩ (.int .i64 (s+1))).alloc (.cells #[.int .i64 lk,.int .i64 ln,.slice A m c] 25 (0,0))) g (s+1):=(HG.out.set _).alloc _
  have hch:Chg (fun k=>k=g) w ((w.setCell ⟨g,0,none⟩ (.int .i64 (s+1))).alloc (.cells #[.int .i64 lk,.int .i64 ln,.slice A m c] 25 (0,0))):=chg_trans (chg_set _ _ _ _) (chg_alloc _ _ _)
  have HF:=Ak (And.intro hfin hch)
  have hc2:=hfin.cell
  clear hfin hch
  go_enter Try.func103,Try.ntmps103
  by_cases h1:256<d
  ·have hw:=Ak (show walkP sndF (.mk lk ln ks) d s=(1,s+1) by rw [walkP_stop (by rw [sndF_bad (.inr (.inl h1))];exact one_ne),sndF_bad (.inr (.inl h1))])
   go_upto_region 2 with (fail)
   go_quiet ((go_at_call 115;exact Calls.quiet_of_same (arity_calls _ _)))
   go_wp2
   go_ret
   rw [hw.out]
   exact ⟨rfl,HF.out.1,chg_drewN HF.out.2 _⟩
  ·by_cases h2:1000<s+1
   ·have hw:=Ak (show walkP sndF (.mk lk ln ks) d s=(1,s+1) by rw [walkP_stop (by rw [sndF_bad (.inl h2)];exact one_ne),sndF_bad (.inl h2)])
    go_upto_region 2 with (fail)
    go_quiet ((go_at_call 115;exact Calls.quiet_of_same (arity_calls _ _)))
    go_wp2
    go_ret
    rw [hw.out]
    exact ⟨rfl,HF.out.1,chg_drewN HF.out.2 _⟩
   ·by_cases h3:(m:Int)=arityP lk
    ·have h3':((m:Int) != arityP lk)=false:=by simp [h3]
     have h3n:0≤arityP lk:=by omega
     have HAR:=Ak h3
     clear h3
     go_upto_region 2 with (fail)
     go_quiet ((go_at_call 115;exact Calls.quiet_of_same (arity_calls _ _)))
     go_upto_block 0 with (fail)
     go_cut [] (fun w2=>Aside0 (rightP (.mk lk ln ks) 1099511627776 1000=true)∧Aside0 (NumAt w2 g (s+1))∧Aside0 (Chg (fun k=>k=g) w w2)∧w2.cell? ⟨w.heap.size,2,none⟩=some (.slice A m c))
     case first =>
      have hbx:((w.setCell ⟨g,0,none⟩ (.int .i64 (s+1))).alloc (.cells #[.int .i64 lk,.int .i64 ln,.slice A m c] 25 (0,0))).cell? ⟨w.heap.size,2,none⟩=some (.slice A m c):=by
       have:=box_cell (w.setCell ⟨g,0,none⟩ (.int .i64 (s+1))) #[.int .i64 lk,.int .i64 ln,.slice A m c] 25 2 (.slice A m c) rfl
       rwa [show (w.setCell ⟨g,0,none⟩ (.int .i64 (s+1))).heap.size=w.heap.size by simp [World.setCell]] at this
      have HBX:=Ak hbx
      clear hbx
      by_cases k1:lk=1
      ·have e1:(lk == 1)=true:=by simp [k1]
       have HL:=Ak (ref_leaf (n:=ln) (ks:=ks) (d:=d) (s:=s) (.inl k1) (by rw [← HM.out];exact HAR.out) (by omega) (by omega))
       have HRR:=Ak (show rightP (.mk lk ln ks) 1099511627776 1000=decide (0≤ln∧ln≤1099511627776) by rw [k1];exact right_num (by rw [← HM.out,HAR.out,k1]))
       clear k1
       by_cases q1:0≤ln
       ·go_wp2
        go_ret
        exact ⟨congrArg (fun b=>Ending.returned (.bool b)) (by rw [HL.out,ref_bit,HRR.out];first | exact (decide_eq_true (by omega)).symm | exact decide_eq_decide.2 (by omega)),by rw [HL.out];exact HF.out.1,chg_drewN HF.out.2 _⟩
       ·go_wp2
        go_ret
        exact ⟨congrArg (fun b=>Ending.returned (.bool b)) (by rw [HL.out,ref_bit,HRR.out];exact (decide_eq_false (by omega)).symm),by rw [HL.out];exact HF.out.1,chg_drewN HF.out.2 _⟩
      ·have e1:(lk == 1)=false:=by simp [k1]
       by_cases k2:lk=2
       ·have e2:(lk == 2)=true:=by simp [k2]
        have HL:=Ak (ref_leaf (n:=ln) (ks:=ks) (d:=d) (s:=s) (.inr k2) (by rw [← HM.out];exact HAR.out) (by omega) (by omega))
        have HRR:=Ak (show rightP (.mk lk ln ks) 1099511627776 1000=decide (0≤ln∧ln≤1000) by rw [k2];exact right_var (by rw [← HM.out,HAR.out,k2]))
        clear k1 k2
        by_cases q1:0≤ln
        ·go_wp2
         go_ret
         exact ⟨congrArg (fun b=>Ending.returned (.bool b)) (by rw [HL.out,ref_bit,HRR.out];first | exact (decide_eq_true (by omega)).symm | exact decide_eq_decide.2 (by omega)),by rw [HL.out];exact HF.out.1,chg_drewN HF.out.2 _⟩
        ·go_wp2
         go_ret
         exact ⟨congrArg (fun b=>Ending.returned (.bool b)) (by rw [HL.out,ref_bit,HRR.out];exact (decide_eq_false (by omega)).symm),by rw [HL.out];exact HF.out.1,chg_drewN HF.out.2 _⟩
       ·have e2:(lk == 2)=false:=by simp [k2]
        by_cases k3:lk=3
        ·have e3:(lk == 3)=true:=by simp [k3]
         have hrr:rightP (.mk lk ln ks) 1099511627776 1000=decide (1≤ln∧ln≤1099511627776):=by rw [k3];exact right_succ (by rw [← HM.out,HAR.out,k3])
         clear k1 k2 k3
         by_cases q:1≤ln∧ln≤1099511627776
         ·have HRT:=Ak (hrr.trans (decide_eq_true q))
          have q1:=q.1
          have q2:=q.2
          clear hrr q
          go_wp2
          go_meet
          case rel=>exact ⟨HRT,⟨HF.out.1⟩,⟨chg_drewN HF.out.2 _⟩,HBX.out⟩
         ·have hbad:=hrr.trans (decide_eq_false q)
          have hw:=Ak (show walkP sndF (.mk lk ln ks) d s=(1,s+1) by rw [walkP_stop (by rw [sndF_bad (.inr (.inr hbad))];exact one_ne),sndF_bad (.inr (.inr hbad))])
          clear hrr hbad
          by_cases q1:ln<1
          ·go_wp2
           go_ret
           rw [hw.out]
           exact ⟨rfl,HF.out.1,chg_drewN HF.out.2 _⟩
          ·have q2:1099511627776<ln:=by omega
           go_wp2
           go_ret
           rw [hw.out]
           exact ⟨rfl,HF.out.1,chg_drewN HF.out.2 _⟩
        ·have e3:(lk == 3)=false:=by simp [k3]
         have HRT:=Ak (right_else (n:=ln) (ks:=ks) (most:=1099511627776) (mostV:=1000) (by rw [← HM.out];exact HAR.out) k1 k2 k3)
         clear k1 k2 k3
         go_wp2
         go_meet
         case rel=>exact ⟨HRT,⟨HF.out.1⟩,⟨chg_drewN HF.out.2 _⟩,HBX.out⟩
     case rest =>
      obtain ⟨HRT,HG0,HC0,hbox2⟩:=hcut
      have hok:=sndF_ok (l:=.mk lk ln ks) (d:=d) (s:=s) (by rw [HRT.out];simp;omega)
      have hz:(sndF (.mk lk ln ks) d s).1=0:=by rw [hok]
      have HE:=Ak (walkP_go hz)
      rw [hok] at HE
      simp only [Lv.kids] at HE
      have hs3:s+1≤1000:=by omega
      clear hok hz
      go_wp2
      go_loopw [72] (fun i wr=>∃ (k:Nat) (s':Int),i=.int .i64 k∧k≤m∧0≤s'∧s'≤1000∧Aside0 (walkKs sndF (ks.drop k) (d+1) s'=walkP sndF (.mk lk ln ks) d s)∧Aside0 (NumAt wr g s')∧Aside0 (Chg (fun k=>k=g) w wr)) (fun i _=>m - (intOf i).toNat)
      case atStart=>exact ⟨0,s+1,rfl,Nat.zero_le _,by omega,by omega,⟨HE.out.symm⟩,HG0,HC0⟩
      case round =>
       clear HE HG0 HC0 hbox2
       obtain ⟨k,s',rfl,hk,hs4,hs5,HE,HG1,HC1⟩:=hrel
       have HIN2:=Ak (LvIn.stay HIN.out (chg_below HC1.out hBg (Nat.le_of_lt (Nat.lt_of_le_of_lt hBg hglt))))
       by_cases hlt:k<m
       ·have hlt2:k<ks.length:=by rw [← HM.out];exact hlt
        obtain ⟨x,hx⟩:∃ x,ks[k]?=some x:=⟨_,List.getElem?_eq_getElem hlt2⟩
        obtain ⟨A',c',hcs,hin⟩:=HIN2.out.kid k x hx
        obtain ⟨ad,rfl,hc1,hc2,hc3⟩:=hcs.facts
        clear hcs
        have HX:=Ak hx
        have HXIN:=Ak hin
        clear hx hin hlt2
        have hglt2:=blk_lt HG1.out
        by_cases h2:(walkP sndF x (d+1) s').1=0
        ·have hsm:=walkP_small sndF_small x (d+1) s' hs4 h2
         have HK:=Ak ((walkKs_go (r:=ks.drop (k+1)) h2).symm.trans ((congrArg (fun l=>walkKs sndF l (d+1) s') (drop_kid HX.out)).symm.trans HE.out))
         obtain ⟨e2,s2,hes⟩:∃ a b,walkP sndF x (d+1) s'=(a,b):=⟨_,_,rfl⟩
         have HV:=Ak hes
         rw [hes] at hsm h2 HK
         simp only at hsm h2 HK
         subst h2
         have hs6:=hsm.1
         have hs7:=hsm.2
         clear hes hsm
         go_wp2_with (go_at_call 103;go_must (refine (IH.out x (Nat.lt_of_lt_of_le (kid_small HX.out) (Nat.le_of_lt_succ hN)) A' c' (d+1) s' g B _ (LvIn.stay HXIN.out ((Below.refl _ _).alloc (Nat.le_of_lt (Nat.lt_of_le_of_lt hBg hglt2)) _)) (HG1.out.alloc _) hBg hs4 hs5 (by omega) (by omega)).mono ?_;rintro e w2 ⟨rfl,hg1,hc1⟩;rw [HV.out] at hg1 ⊢;have HG2:=Ak hg1;have HC2:=Ak (chg_trans HC1.out (chg_trans (chg_alloc _ _ _) hc1));clear hg1 hc1))
         go_roundw
         case rel=>exact ⟨k+1,s2,by go_num,by omega,hs6,hs7,HK,HG2,HC2⟩
         case measure=>(simp [intOf];try omega)
        ·have HK:=Ak ((walkKs_stop (r:=ks.drop (k+1)) h2).symm.trans ((congrArg (fun l=>walkKs sndF l (d+1) s') (drop_kid HX.out)).symm.trans HE.out))
         obtain ⟨e2,s2,hes⟩:∃ a b,walkP sndF x (d+1) s'=(a,b):=⟨_,_,rfl⟩
         have HV:=Ak hes
         rw [hes] at h2
         have h2':(e2 == 0)=false:=by simpa using h2
         clear hes h2
         go_wp2_with (go_at_call 103;go_must (refine (IH.out x (Nat.lt_of_lt_of_le (kid_small HX.out) (Nat.le_of_lt_succ hN)) A' c' (d+1) s' g B _ (LvIn.stay HXIN.out ((Below.refl _ _).alloc (Nat.le_of_lt (Nat.lt_of_le_of_lt hBg hglt2)) _)) (HG1.out.alloc _) hBg hs4 hs5 (by omega) (by omega)).mono ?_;rintro e w2 ⟨rfl,hg1,hc1⟩;rw [HV.out] at hg1 ⊢;have HG2:=Ak hg1;have HC2:=Ak (chg_trans HC1.out (chg_trans (chg_alloc _ _ _) hc1));clear hg1 hc1))
         go_ret
         rw [← HK.out,HV.out]
         exact ⟨by simp [h2'],HG2.out,HC2.out⟩
       ·obtain rfl:k=m:=by omega
        have hlt':decide ((k:Int)<k)=false:=by simp
        have HW:=Ak (show walkP sndF (.mk lk ln ks) d s=(0,s') by rw [← HE.out,List.drop_of_length_le (by rw [← HM.out];exact Nat.le_refl _),walkKs])
        go_wp2
        go_ret
        rw [HW.out]
        exact ⟨rfl,HG1.out,HC1.out⟩
    ·have hbad:rightP (.mk lk ln ks) 1099511627776 1000=false:=right_bad (by rw [← HM.out];exact h3)
     have hw:=Ak (show walkP sndF (.mk lk ln ks) d s=(1,s+1) by rw [walkP_stop (by rw [sndF_bad (.inr (.inr hbad))];exact one_ne),sndF_bad (.inr (.inr hbad))])
     have h3':((m:Int) != arityP lk)=true:=by simp [h3]
     clear hbad h3
     go_upto_region 2 with (fail)
     by_cases h4:arityP lk<0
     ·go_quiet ((go_at_call 115;exact Calls.quiet_of_same (arity_calls _ _)))
      go_wp2
      go_ret
      rw [hw.out]
      exact ⟨rfl,HF.out.1,chg_drewN HF.out.2 _⟩
     ·go_quiet ((go_at_call 115;exact Calls.quiet_of_same (arity_calls _ _)))
      go_wp2
      go_ret
      rw [hw.out]
      exact ⟨rfl,HF.out.1,chg_drewN HF.out.2 _⟩
end Go.Proofs.Ytdboloabpjmgaaa

namespace Go.Proofs.Ytdboloabpjmgaaa
open Go.RowKit Go.Proofs.YtdboloabpjmgaaaW.PrintWords Go.RegionInvYtdboloabpjmgaaa

def mayB (v:Int) (l:Lv):Int:=(walkP (mayF v) l 1 0).1
end Go.Proofs.Ytdboloabpjmgaaa

namespace Go.Proofs.Ytdboloabpjmgaaa
open Go.RowKit Go.Proofs.YtdboloabpjmgaaaW.PrintWords Go.RegionInvYtdboloabpjmgaaa

def bt (s:ByteArray) (i:Nat):Nat:=(s.data.toList.getD i 0).toNat
def nchP (x:Nat):Prop:=97≤x∧x≤122∨48≤x∧x≤57∨x=95∨x=46
instance (x:Nat):Decidable (nchP x):=by unfold nchP;infer_instance
def NameP (s:ByteArray):Prop:=(1≤s.size∧s.size≤32)∧(97≤bt s 0∧bt s 0≤122)∧∀ i,i<s.size→nchP (bt s i)
instance (s:ByteArray):Decidable (NameP s):=by unfold NameP;infer_instance
def nameB (s:ByteArray):Bool:=decide (NameP s)
end Go.Proofs.Ytdboloabpjmgaaa

namespace Go.Proofs.Ytdboloabpjmgaaa
open Go.RowKit Go.Proofs.YtdboloabpjmgaaaW.PrintWords Go.RegionInvYtdboloabpjmgaaa

def mayLs (v:Int):List Lv→Int
 | []=>0
 | l :: r=>if mayB v l=0 then mayLs v r else mayB v l
def mnP (v:Int) (t:Tm):Int:=
 if (t.kids.length:Int)≠arZ t.kind then 1 else if t.kind=1∧(t.num<0∨1048576<t.num) then 1 else
 if t.kind=2 then mayB v t.lv else if t.kind≠7 then 0 else if nameB t.name=false then 8 else if 6<t.ls.length then 2 else mayLs v t.ls
end Go.Proofs.Ytdboloabpjmgaaa

namespace Go.Proofs.Ytdboloabpjmgaaa
open Go.RowKit Go.Proofs.YtdboloabpjmgaaaW.PrintWords Go.RegionInvYtdboloabpjmgaaa

def ErrAt (w:World) (g:Nat) (n:Int):Prop:=w.heap[g]?=some (.cells #[.int .i64 n] 49 (0,0))
theorem ErrAt.cell {w:World} {g:Nat} {n:Int} (h:ErrAt w g n):w.cell? ⟨g,0,none⟩=some (.int .i64 n):=by rw [cell_of_row _ _ _ _ _ _ h];rfl
theorem ErrAt.set {w:World} {g:Nat} {n:Int} (h:ErrAt w g n) (m:Int):ErrAt (w.setCell ⟨g,0,none⟩ (.int .i64 m)) g m:=blk_put h 0 _ rfl
end Go.Proofs.Ytdboloabpjmgaaa

namespace Go.Proofs.Ytdboloabpjmgaaa
open Go.RowKit Go.Proofs.YtdboloabpjmgaaaW.PrintWords Go.RegionInvYtdboloabpjmgaaa

theorem refkids_calls (k:Int) (w:World):Calls Try.prog 39 #[.int .i64 k] w fun e w'=>e=.returned (.int .i64 (arZ k))∧w'=w:=by
 go_enter Try.func39,Try.ntmps39
 by_cases h1:k=1
 ·subst h1;go_wp2;go_ret;exact ⟨rfl,rfl⟩
 ·by_cases h2:k=2
  ·subst h2;go_wp2;go_ret;exact ⟨rfl,rfl⟩
  ·by_cases h7:k=7
   ·subst h7;go_wp2;go_ret;exact ⟨rfl,rfl⟩
   ·by_cases h3:k=3
    ·subst h3;go_wp2;go_ret;exact ⟨rfl,rfl⟩
    ·by_cases h4:k=4
     ·subst h4;go_wp2;go_ret;exact ⟨rfl,rfl⟩
     ·by_cases h6:k=6
      ·subst h6;go_wp2;go_ret;exact ⟨rfl,rfl⟩
      ·by_cases h5:k=5
       ·subst h5;go_wp2;go_ret;exact ⟨rfl,rfl⟩
       ·have HE:=Ak (show arZ k = -1 by unfold arZ;rw [if_neg (by omega),if_neg (by omega),if_neg h5])
        have b1:(k == 1)=false:=by simp [h1]
        have b2:(k == 2)=false:=by simp [h2]
        have b3:(k == 3)=false:=by simp [h3]
        have b4:(k == 4)=false:=by simp [h4]
        have b5:(k == 5)=false:=by simp [h5]
        have b6:(k == 6)=false:=by simp [h6]
        have b7:(k == 7)=false:=by simp [h7]
        go_wp2
        go_ret
        rw [HE.out]
        exact ⟨rfl,rfl⟩
theorem drop_fin {n k:Nat} (h:k<n):(List.finRange n).drop k=⟨k,h⟩ :: (List.finRange n).drop (k+1):=by
 rw [List.drop_eq_getElem_cons (by simpa using h)]
 simp
end Go.Proofs.Ytdboloabpjmgaaa

namespace Go.Proofs.Ytdboloabpjmgaaa
open Go.RowKit Go.Proofs.YtdboloabpjmgaaaW.PrintWords Go.RegionInvYtdboloabpjmgaaa

inductive Fine:Tm→Prop
 | mk {t:Tm} (ha:(t.kids.length:Int)=arZ t.kind) (hn:t.kind=1→0≤t.num∧t.num≤1048576) (hk:∀ i:Fin (nK t),Fine (kidF t i)):Fine t
theorem Fine.num {t:Tm} (h:Fine t):t.kind=1→0≤t.num∧t.num≤1048576:=by cases h;assumption
theorem Fine.kid {t:Tm} (h:Fine t):∀ i:Fin (nK t),Fine (kidF t i):=by cases h;assumption
theorem map_fin_eq {α:Type} {n m:Nat} (h:n=m) (f:Fin n→α) (g:Fin m→α) (hfg:∀ (i:Nat) (h1:i<n) (h2:i<m),f ⟨i,h1⟩=g ⟨i,h2⟩):(List.finRange n).map f=(List.finRange m).map g:=by
 subst h
 exact List.map_congr_left fun i _=>hfg i.1 i.2 i.2
theorem nK_none {t:Tm} (h:t.kids=[]):nK t=0:=by have:=nK_le t;rw [h] at this;exact Nat.le_zero.1 this
theorem fin_none {t:Tm} (h:nK t=0):List.finRange (nK t)=[]:=List.eq_nil_of_length_eq_zero (by rw [List.length_finRange];exact h)
end Go.Proofs.Ytdboloabpjmgaaa

namespace Go.Proofs.Ytdboloabpjmgaaa
open Go.RowKit Go.Proofs.YtdboloabpjmgaaaW.PrintWords Go.RegionInvYtdboloabpjmgaaa

def overT (RF:Tm→Int→Tm) (t:Tm) (b:Int):Tm:=.mk t.kind 0 noName (.mk 0 0 []) [] (rebKids RF t b (List.finRange (nK t)))
theorem reb_over {RF:Tm→Int→Tm} {t:Tm} {b:Int} (h:leafT t=false):rebP RF t b=overT RF t b:=reb_node h
theorem leaf_nK {t:Tm} (h:leafT t=true):nK t=0:=of_decide_eq_true h
theorem leaf_nK' {t:Tm} (h:leafT t=false):nK t≠0:=of_decide_eq_false h
theorem nK_ar {t:Tm} (h:nK t≠0):(nK t:Int)=arZ t.kind:=by
 unfold nK at h ⊢
 split
 ·rename_i h2;rw [if_pos h2] at h;exact absurd rfl h
 ·rename_i h2;rw [if_neg h2] at h;omega
theorem over_len (RF:Tm→Int→Tm) (t:Tm) (b:Int):(overT RF t b).kids.length=nK t:=by
 show (rebKids RF t b (List.finRange (nK t))).length=nK t
 rw [rebKids_len,List.length_finRange]
theorem over_nK {RF:Tm→Int→Tm} {t:Tm} {b:Int} (h:leafT t=false):nK (overT RF t b)=nK t:=by
 have h1:=nK_ar (leaf_nK' h)
 have h2:=over_len RF t b
 show (if ((overT RF t b).kids.length:Int)<arZ t.kind then 0 else (arZ t.kind).toNat)=nK t
 rw [h2,if_neg (by omega)]
 omega
theorem over_leaf {RF:Tm→Int→Tm} {t:Tm} {b:Int} (h:leafT t=false):leafT (overT RF t b)=false:=by
 unfold leafT
 rw [over_nK h]
 exact decide_eq_false (leaf_nK' h)
theorem over_get {RF:Tm→Int→Tm} {t:Tm} {b:Int} (i:Nat) (h2:i<nK t):(overT RF t b).kids[i]?=some (rebP RF (kidF t ⟨i,h2⟩) (b+moreZ t i)):=by
 show (rebKids RF t b (List.finRange (nK t)))[i]?=_
 unfold rebKids
 rw [List.getElem?_map,List.getElem?_eq_getElem (by rw [List.length_finRange];exact h2)]
 simp
theorem over_kid {RF:Tm→Int→Tm} {t:Tm} {b:Int} (i:Nat) (h1:i<nK (overT RF t b)) (h2:i<nK t):kidF (overT RF t b) ⟨i,h1⟩=rebP RF (kidF t ⟨i,h2⟩) (b+moreZ t i):=by
 have e1:=kidF_get (overT RF t b) ⟨i,h1⟩
 rw [over_get i h2] at e1
 exact (Option.some.inj e1).symm
theorem over_more (RF:Tm→Int→Tm) (t:Tm) (b:Int) (i:Nat):moreZ (overT RF t b) i=moreZ t i:=rfl
theorem reb_reb (F G:Tm→Int→Tm) (k:Int) (N:Nat):∀ (t:Tm),SizeOf.sizeOf t<N→∀ (b c:Int),c=b+k→rebP G (rebP F t b) c=rebP (fun x e=>rebP G (F x e) (e+k)) t b:=by
 induction N with
 | zero=>intro t h;omega
 | succ N ih =>
  intro t hN b c hc
  cases hl:leafT t with
  | true=>rw [reb_leaf hl,reb_leaf hl,hc]
  | false =>
   rw [reb_over hl,reb_over (over_leaf hl),reb_over hl]
   show Tm.mk t.kind 0 noName (.mk 0 0 []) [] (rebKids G (overT F t b) c (List.finRange (nK (overT F t b))))=Tm.mk t.kind 0 noName (.mk 0 0 []) [] (rebKids (fun x e=>rebP G (F x e) (e+k)) t b (List.finRange (nK t)))
   congr 1
   unfold rebKids
   refine map_fin_eq (over_nK hl) _ _ fun i h1 h2=>?_
   rw [over_kid i h1 h2,over_more]
   exact ih (kidF t ⟨i,h2⟩) (by have:=kidF_lt t ⟨i,h2⟩;omega) _ _ (by show c+moreZ t i=b+moreZ t i+k;omega)
theorem reb2 (F G:Tm→Int→Tm) (t:Tm) (b:Int):rebP G (rebP F t b) b=rebP (fun x e=>rebP G (F x e) e) t b:=by
 have h:=reb_reb F G 0 _ t (Nat.lt_succ_self _) b b (by omega)
 simpa using h
inductive AllL (P:Tm→Int→Prop):Tm→Int→Prop
 | leaf {t:Tm} {b:Int} (h:leafT t=true) (hp:P t b):AllL P t b
 | node {t:Tm} {b:Int} (h:leafT t=false) (hk:∀ i:Fin (nK t),AllL P (kidF t i) (b+moreZ t i)):AllL P t b
theorem AllL.mono {P Q:Tm→Int→Prop} {t:Tm} {b:Int} (h:AllL P t b) (f:∀ x e,leafT x=true→P x e→Q x e):AllL Q t b:=by
 induction h with
 | leaf hl hp=>exact .leaf hl (f _ _ hl hp)
 | node hl _ ih=>exact .node hl ih
end Go.Proofs.Ytdboloabpjmgaaa

namespace Go.Proofs.Ytdboloabpjmgaaa
open Go.RowKit Go.Proofs.YtdboloabpjmgaaaW.PrintWords Go.RegionInvYtdboloabpjmgaaa

theorem below_drewN {B:Nat} {w w':World} (h:Below B w w') (n:Nat):Below B w (w'.drewN n):=⟨h.os,h.tape,h.output,h.size,h.block⟩
set_option maxHeartbeats 4000000 in
theorem refleaf_calls (t:Tm) (p:Pl) (w:World) (hl:t.kids.length≤9223372036854775807):Calls Try.prog 77 #[tmV p t] w fun e w'=>e=.returned (.bool (leafR t))∧Below w.heap.size w w':=by
 obtain ⟨W,hW⟩:∃ W,W=w.alloc (tmO p t):=⟨_,rfl⟩
 have hb:Below w.heap.size w W:=by rw [hW];exact below_alloc (Below.refl _ _) _
 have HX:=Ak (show W.heap[w.heap.size]?=some (tmO p t) by rw [hW];exact blk_new _ _)
 have HB:=Ak hb
 clear hb
 unfold tmV
 unfold tmO at hW
 obtain ⟨tk,htk⟩:∃ x,t.kind=x:=⟨_,rfl⟩
 obtain ⟨L,hL⟩:∃ x,t.kids.length=x:=⟨_,rfl⟩
 obtain ⟨c0,c1,c2,c3,c4,c5,c6,c7⟩:=row8 HX.out
 rw [htk] at hW c0 ⊢
 rw [hL] at hW c7 hl ⊢
 obtain ⟨ar,har⟩:∃ x,x=arZ tk:=⟨_,rfl⟩
 have HR:=Ak (show leafR t=decide (ar<0∨(L:Int)<ar) by unfold leafR;rw [htk,hL,har])
 have HAC:=Ak (show ∀ w,Calls Try.prog 39 #[.int .i64 tk] w fun e w'=>e=.returned (.int .i64 ar)∧w'=w from fun w=>by rw [har];exact refkids_calls _ _)
 clear htk hL har c1 c2 c3 c4 c5 c6
 go_enter Try.func77,Try.ntmps77
 go_upto_region 1 with (fail)
 rw [← hW]
 clear hW
 by_cases ha:ar<0
 ·have ha':decide (ar<0)=true:=by simp [ha]
  have HZ:=Ak (show leafR t=true by rw [HR.out];exact decide_eq_true (.inl ha))
  go_quiet ((go_at_call 39;exact Calls.quiet_of_same (HAC.out _)))
  go_wp2
  go_ret
  rw [HZ.out]
  exact ⟨rfl,below_drewN HB.out _⟩
 ·have ha':decide (ar<0)=false:=by simp;omega
  have HZ:=Ak (show leafR t=decide ((L:Int)<ar) by rw [HR.out];exact decide_eq_decide.2 ⟨fun h=>h.resolve_left ha,.inr⟩)
  go_quiet ((go_at_call 39;exact Calls.quiet_of_same (HAC.out _)))
  go_wp2
  go_ret
  rw [HZ.out]
  exact ⟨rfl,below_drewN HB.out _⟩
def CntPost (g:Nat) (w:World) (r:Bool × Int) (e:Ending) (w':World):Prop:=e=.returned (.bool r.1)∧NumAt w' g r.2∧Chg (fun k=>k=g) w w'
theorem leafAt (t:Tm) (p:Pl) (w W:World) (B:Nat) (v:Value) (hv:v=tmV p t) (hl:t.kids.length≤9223372036854775807) :
  Calls Try.prog 77 #[v] w fun e w'=>e=.returned (.bool (leafR t))∧Below w.heap.size w w':=hv ▸ refleaf_calls t p w hl
set_option maxRecDepth 100000 in
set_option maxHeartbeats 16000000 in
theorem refcount_calls (N:Nat):∀ (t:Tm),SizeOf.sizeOf t<N→∀ (p:Pl) (d n:Int) (g B:Nat) (w:World),TmIn w B p t→NumAt w g n→B≤g→0≤n→n≤20000→0≤d→d≤2001 →
  Calls Try.prog 67 #[tmV p t,.int .i64 d,.pointer (some ⟨g,0,none⟩)] w (CntPost g w (cntP t d n)):=by
 induction N with
 | zero=>intro t h;omega
 | succ N ih =>
  intro t hN p d n g B w hin hg hBg hn0 hn1 hd0 hd1
  have IH:=Ak ih
  have HNN:=Ak hN
  obtain ⟨W,hW⟩:∃ W,W=(w.setCell ⟨g,0,none⟩ (.int .i64 (n+1))).alloc (tmO p t):=⟨_,rfl⟩
  have hz1:=blk_lt hg
  have cs:=chg_set w g 0 (.int .i64 (n+1))
  have hch:Chg (fun k=>k=g) w W:=by rw [hW];exact chg_trans cs (chg_alloc _ _ _)
  have HCH:=Ak hch
  have K1:=Ak (show NumAt W g (n+1) by rw [hW];exact (hg.set _).alloc _)
  have HX:=Ak (show W.heap[w.heap.size]?=some (tmO p t) by rw [hW];have:=blk_new (w.setCell ⟨g,0,none⟩ (.int .i64 (n+1))) (tmO p t);simpa [World.setCell] using this)
  have hgz:=hg.cell
  have hfz:=blk_frozen hg 0
  have HIN:=Ak (hin.stay (hch.below (fun k e=>by omega) (by omega)))
  have hlen:=hin.len
  have HKEEP:=Ak (show ∀ (wr:World),Chg (fun k=>k=g) w wr→∀ j,j<B→wr.heap[j]?=W.heap[j]? from fun wr hc j hj=>((hc.block j (by omega) (by omega)).trans (hch.block j (by omega) (by omega)).symm))
  have hbd:=cnt_bd _ t (Nat.lt_succ_self _) d n hn1
  have HBD:=Ak hbd
  have HGZ:=Ak (show w.heap.size+1≤W.heap.size by rw [hW];simp [World.setCell])
  clear ih hN hin hg cs hch hbd
  obtain ⟨pA,pc,pB,pd,pK,pe⟩:=p
  dsimp only at hlen
  unfold tmV
  unfold tmO at hW
  dsimp only
  obtain ⟨c0,c1,c2,c3,c4,c5,c6,c7⟩:=row8 HX.out
  dsimp only at c5 c6 c7
  clear c1 c2 c3 c4 c5 c6
  obtain ⟨tk,htk⟩:∃ x,t.kind=x:=⟨_,rfl⟩
  obtain ⟨L,hL⟩:∃ x,t.kids.length=x:=⟨_,rfl⟩
  rw [htk] at hW c0 ⊢
  rw [hL] at hW c7 hlen ⊢
  have HTK:=Ak htk
  have HL:=Ak hL
  have hL9:L≤9223372036854775807:=by omega
  have HLEAF:=Ak (show ∀ w,Calls Try.prog 77 #[.agg #[.int .i64 tk,.int .i64 t.num,.string t.name,.int .i64 t.lv.kind,.int .i64 t.lv.num,.slice pA t.lv.kids.length pc,.slice pB t.ls.length pd,.slice pK L pe]] w fun e w'=>e=.returned (.bool (leafR t))∧Below w.heap.size w w' from fun w=>leafAt t ⟨pA,pc,pB,pd,pK,pe⟩ w w 0 _ (by rw [← htk,← hL];rfl) (by omega))
  have HX':=Ak (show W.heap[w.heap.size]?=some (.cells #[.int .i64 tk,.int .i64 t.num,.string t.name,.int .i64 t.lv.kind,.int .i64 t.lv.num,.slice pA t.lv.kids.length pc,.slice pB t.ls.length pd,.slice pK L pe] 28 (0,0)) by rw [← htk,← hL];exact HX.out)
  clear htk hL HX
  go_enter Try.func67,Try.ntmps67
  go_upto_region 2 with (fail)
  rw [← hW]
  clear hW
  by_cases q:2000<d
  ·have HE:=Ak (cnt_deep (t:=t) (n:=n) q)
   go_wp2
   go_ret
   rw [HE.out]
   exact ⟨rfl,K1.out,HCH.out⟩
  ·have Q:=Ak q
   have q1:d≤2000:=by omega
   clear q
   cases hlf:leafR t with
   | true =>
    have HLF:=Ak hlf
    have HE:=Ak (cnt_leaf (n:=n) Q.out hlf)
    clear hlf
    go_wp2_with (first
     | (refine wpList_load_row rfl 28 _ rfl w.heap.size rfl 28 _ (0,0) _ HX'.out Try.underlying28 rfl (by kernel_rfl) ?_)
     | (go_at_call 77;go_must (refine (HLEAF.out _).mono ?_;rintro e w2 ⟨rfl,hb⟩;rw [HLF.out];have HB2:=Ak hb;clear hb)))
    go_ret
    rw [HE.out]
    exact ⟨rfl,NumAt.below K1.out HB2.out,chg_trans HCH.out (Chg.of_below HB2.out)⟩
   | false =>
    have HLF:=Ak hlf
    have HE:=Ak (cnt_go (n:=n) Q.out hlf)
    obtain ⟨hk1,hk2,hk3⟩:=nK_eq hlf
    obtain ⟨ar,har⟩:∃ x,nK t=x:=⟨_,rfl⟩
    have HNK:=Ak har
    have HAC:=Ak (show ∀ w,Calls Try.prog 39 #[.int .i64 tk] w fun e w'=>e=.returned (.int .i64 (ar:Int))∧w'=w from fun w=>by rw [← har,hk1,HTK.out];exact refkids_calls _ _)
    have har3:ar≤3:=by rw [← har];exact nK_le3 t
    have harL:ar≤L:=by rw [← har,← HL.out];exact nK_le t
    have hare:ar≤pe:=by omega
    have hareI:(ar:Int)≤pe:=by omega
    clear hlf hk1 hk2 hk3 har
    go_upto_region 6 with (first
     | (refine wpList_load_row rfl 28 _ rfl w.heap.size rfl 28 _ (0,0) _ HX'.out Try.underlying28 rfl (by kernel_rfl) ?_)
     | (go_at_call 77;go_must (refine (HLEAF.out _).mono ?_;rintro e w2 ⟨rfl,hb⟩;rw [HLF.out];have HB2:=Ak hb;have HX2:=Ak ((hb.block _ (blk_lt HX'.out)).trans HX'.out);clear hb)))
    clear c0 c7
    have c0:w2.cell? ⟨w.heap.size,0,none⟩=some (.int .i64 tk):=by rw [cell_of_row _ _ _ _ _ _ HX2.out];rfl
    have c7:w2.cell? ⟨w.heap.size,7,none⟩=some (.slice pK L pe):=by rw [cell_of_row _ _ _ _ _ _ HX2.out];rfl
    go_quiet ((go_at_call 39;exact Calls.quiet_of_same (HAC.out _)))
    have HCW:=Ak (show Chg (fun k=>k=g) w w2 from chg_trans HCH.out (Chg.of_below HB2.out))
    have HNW:=Ak (NumAt.below K1.out HB2.out)
    clear c0 c7 K1 HCH HX' HLEAF HX2 HB2
    obtain ⟨qq,hq⟩:=HIN.out.kid
    have HQ:=Ak hq
    clear hq
    go_wp2
    go_loopw [25] (fun i wr=>∃ (k:Nat) (m:Int),i=.int .i64 k∧k≤ar∧0≤m∧m≤20001∧Aside0 (runL (kidsC t d) ((List.finRange (nK t)).drop k) m=runL (kidsC t d) (List.finRange (nK t)) (n+1))∧Aside0 (NumAt wr g m)∧Aside0 (Chg (fun k=>k=g) w wr)) (fun i _=>ar - (intOf i).toNat)
    case atStart=>exact ⟨0,n+1,rfl,Nat.zero_le _,by omega,by omega,⟨by rw [List.drop_zero]⟩,⟨HNW.out⟩,⟨chg_drewN HCW.out _⟩⟩
    case round =>
     clear HCW HNW
     obtain ⟨k,m,rfl,hk,hm0,hm1,HK,HNM,HCM⟩:=hrel
     have kc:=HNM.out.cell
     have kf:=blk_frozen HNM.out 0
     have kz:=blk_lt HNM.out
     by_cases hlt:k<ar
     ·have hkn:k<nK t:=by rw [HNK.out];exact hlt
      have hx:=kidF_get t ⟨k,hkn⟩
      have HDF:=Ak (drop_fin hkn)
      obtain ⟨x,hxe⟩:∃ x,kidF t ⟨k,hkn⟩=x:=⟨_,rfl⟩
      have HXL:=Ak (show SizeOf.sizeOf x<SizeOf.sizeOf t by rw [← hxe];exact kidF_lt t _)
      rw [hxe] at hx
      obtain ⟨⟨bk,o,hpK,hSb,hcells⟩,hxin⟩:=HQ.out k x hx
      try dsimp only at hpK
      have hbk:∀ j v,(tmC (qq k) x)[j]?=some v→wr.cell? ⟨bk,o+k * 8+j,none⟩=some v:=fun j v hv=>(cell_same (HKEEP.out wr HCM.out bk hSb)).trans (hcells j v hv)
      have d0:=hbk 0 _ rfl
      have d1:=hbk 1 _ rfl
      have d2:=hbk 2 _ rfl
      have d3:=hbk 3 _ rfl
      have d4:=hbk 4 _ rfl
      have d5:=hbk 5 _ rfl
      have d6:=hbk 6 _ rfl
      have d7:=hbk 7 _ rfl
      rw [Nat.add_zero] at d0
      have HXIN:=Ak (show TmIn wr B (qq k) x from TmS.same hxin fun j hj _=>HKEEP.out wr HCM.out j hj)
      have hbr:B≤wr.heap.size:=by have:=HCM.out.size;omega
      have HPK:=Ak hpK
      rw [hpK]
      have HSTEP:=Ak (show runL (kidsC t d) ((List.finRange (nK t)).drop k) m=if (kidsC t d ⟨k,hkn⟩ m).1=true then runL (kidsC t d) ((List.finRange (nK t)).drop (k+1)) (kidsC t d ⟨k,hkn⟩ m).2 else (false,(kidsC t d ⟨k,hkn⟩ m).2) by rw [HDF.out,runL])
      by_cases hm:20000<m
      ·have HZ:=Ak (show cntP t d n=(false,m) by
        have h1:kidsC t d ⟨k,hkn⟩ m=(false,m):=if_pos hm
        have h2:=HSTEP.out
        rw [h1,if_neg (fun h=>by cases h)] at h2
        rw [HE.out,← HK.out,h2];rfl)
       clear hcells hx hxin hbk hpK hkn hxe HSTEP HDF
       go_wp2
       go_ret
       rw [HZ.out]
       exact ⟨rfl,HNM.out.alloc _,chg_trans HCM.out (chg_alloc _ _ _)⟩
      ·obtain ⟨ev,m2,hev⟩:∃ ev m2,cntP x (d+1) m=(ev,m2):=⟨_,_,rfl⟩
       have HEV:=Ak hev
       have hkc:kidsC t d ⟨k,hkn⟩ m=(ev,m2):=by rw [← hev,← hxe];exact if_neg hm
       have hb2:=cnt_bd _ x (Nat.lt_succ_self _) (d+1) m (by omega)
       rw [hev] at hb2
       obtain ⟨b1,b2⟩:=hb2
       simp only at b1 b2
       have HST:=Ak (show runL (kidsC t d) ((List.finRange (nK t)).drop k) m=if ev=true then runL (kidsC t d) ((List.finRange (nK t)).drop (k+1)) m2 else (false,m2) by have h:=HSTEP.out;rw [hkc] at h;exact h)
       clear hcells hx hxin hbk hpK hkn hxe HSTEP HDF hev hkc
       cases ev with
       | true =>
        have HK2:=Ak ((HST.out.trans (if_pos rfl)).symm.trans HK.out)
        clear HST
        go_wp2_with (go_at_call 67;go_must (refine (IH.out x (by have:=HXL.out;have:=HNN.out;omega) (qq k) (d+1) m g B _ (TmIn.stay HXIN.out ((Below.refl _ _).alloc (by omega) _)) (HNM.out.alloc _) (by omega) hm0 (by omega) (by omega) (by omega)).mono ?_;rintro e w3 ⟨rfl,hg1,hc1⟩;rw [HEV.out] at hg1 ⊢;have HG2:=Ak hg1;have HC3:=Ak (chg_trans HCM.out (chg_trans (chg_alloc _ _ _) hc1));clear hg1 hc1))
        go_roundw
        case rel=>exact ⟨k+1,m2,by go_num,by omega,by omega,by omega,HK2,HG2,HC3⟩
        case measure=>(simp [intOf];try omega)
       | false =>
        have HZ:=Ak (show cntP t d n=(false,m2) by rw [HE.out,← HK.out,HST.out,if_neg (by decide)];rfl)
        clear HST
        go_wp2_with (go_at_call 67;go_must (refine (IH.out x (by have:=HXL.out;have:=HNN.out;omega) (qq k) (d+1) m g B _ (TmIn.stay HXIN.out ((Below.refl _ _).alloc (by omega) _)) (HNM.out.alloc _) (by omega) hm0 (by omega) (by omega) (by omega)).mono ?_;rintro e w3 ⟨rfl,hg1,hc1⟩;rw [HEV.out] at hg1 ⊢;have HG2:=Ak hg1;have HC3:=Ak (chg_trans HCM.out (chg_trans (chg_alloc _ _ _) hc1));clear hg1 hc1))
        go_ret
        rw [HZ.out]
        exact ⟨rfl,HG2.out,HC3.out⟩
     ·obtain rfl:k=ar:=by omega
      have hlt':decide ((k:Int)<k)=false:=by simp
      have HZ:=Ak (show cntP t d n=(decide (m≤20000),m) by rw [HE.out,← HK.out,List.drop_of_length_le (by rw [List.length_finRange,HNK.out];exact Nat.le_refl _)];rfl)
      go_wp2
      go_ret
      rw [HZ.out]
      exact ⟨rfl,HNM.out,HCM.out⟩
set_option maxHeartbeats 4000000 in
theorem tooGreat_calls (t:Tm) (p:Pl) (w:World) (hin:TmIn w w.heap.size p t):Calls Try.prog 26 #[tmV p t] w fun e w'=>e=.returned (.bool (!decide (okT t)))∧Below w.heap.size w w':=by
 have HIN:=Ak hin
 obtain ⟨W,hW⟩:∃ W,W=(w.alloc (tmO p t)).alloc (.cells #[.int .i64 0] 3 (0,0)):=⟨_,rfl⟩
 have hb:Below w.heap.size w W:=by rw [hW];exact below_alloc (below_alloc (Below.refl _ _) _) _
 have HX:=Ak (show W.heap[w.heap.size]?=some (tmO p t) by rw [hW];exact blk_alloc (blk_new _ _) _)
 have HN1:=Ak (show NumAt W (w.heap.size+1) 0 by rw [hW];have:=blk_new (w.alloc (tmO p t)) (.cells #[.int .i64 0] 3 (0,0));simp only [World.size_alloc] at this;exact this)
 have HB:=Ak hb
 have HV:=Ak (great_ok t)
 clear hin hb
 unfold tmV
 unfold tmO at hW
 go_enter Try.func26,Try.ntmps26
 go_upto_region 2 with (fail)
 rw [← hW]
 clear hW
 go_wp2_with (first
  | (refine wpList_load_row rfl 28 _ rfl w.heap.size rfl 28 _ (0,0) _ HX.out Try.underlying28 rfl (by kernel_rfl) ?_)
  | (go_at_call 67;go_must (refine (refcount_calls _ t (Nat.lt_succ_self _) p 1 0 (w.heap.size+1) w.heap.size W (HIN.out.stay HB.out) HN1.out (by omega) (by decide) (by decide) (by decide) (by decide)).mono ?_;rintro e w2 ⟨rfl,-,hC⟩;rw [HV.out];have HB2:=Ak (Chg.trans_below HB.out hC (fun k h=>by omega) HB.out.size);clear hC)))
 go_ret
 exact ⟨rfl,HB2.out⟩
end Go.Proofs.Ytdboloabpjmgaaa

namespace Go.Proofs.Ytdboloabpjmgaaa
open Go.RowKit Go.Proofs.YtdboloabpjmgaaaW.PrintWords Go.RegionInvYtdboloabpjmgaaa Go.RegionEYtdboloabpjmgaaa

def orN (f h:Int × List Int):Int × List Int:=(max f.1 h.1,(List.range (max f.2.length h.2.length)).map fun j=>max (atP f.2 (j:Nat)) (atP h.2 (j:Nat)))
end Go.Proofs.Ytdboloabpjmgaaa

namespace Go.Proofs.Ytdboloabpjmgaaa
open Go.RowKit Go.Proofs.YtdboloabpjmgaaaW.PrintWords Go.RegionInvYtdboloabpjmgaaa Go.RegionEYtdboloabpjmgaaa

abbrev Nf:=Int × List Int
def varN (fs:List Nf) (n:Int):Nf:=if n<fs.length then fs.getD n.toNat (0,[]) else (0,List.replicate n.toNat (-1) ++ [0])
mutual
def ofP (fs:List Nf):Lv→Nf
 | .mk k n ks=>if k=1 then (n,[]) else if k=3 then plusN n (of0 fs ks) else if k=4 then orN (of0 fs ks) (of1 fs ks) else varN fs n
def of0 (fs:List Nf):List Lv→Nf
 | []=>(0,[])
 | x :: _=>ofP fs x
def of1 (fs:List Nf):List Lv→Nf
 | []=>(0,[])
 | _ :: r=>of0 fs r
end
theorem ofP_succ (fs:List Nf) (n:Int) (x:Lv):ofP fs (.mk 3 n [x])=plusN n (ofP fs x):=by rw [ofP,of0];rfl
theorem ofP_max (fs:List Nf) (n:Int) (x y:Lv):ofP fs (.mk 4 n [x,y])=orN (ofP fs x) (ofP fs y):=by rw [ofP,of0,of1,of0];rfl
theorem good_cases {k n:Int} {ks:List Lv} (h:Good (.mk k n ks)):(k=1∧ks=[]∧0≤n∧n≤1099511627776)∨(k=2∧ks=[]∧0≤n∧n≤1000)∨(k=3∧∃ x,ks=[x]∧1≤n∧n≤1099511627776∧Good x)∨(k=4∧∃ x y,ks=[x,y]∧Good x∧Good y):=by
 cases h with
 | mk h hk =>
  unfold rightP at h
  split at h
  ·cases h
  ·rename_i h1
   have h2:(ks.length:Int)=arityP k:=by simpa [Lv.kids,Lv.kind] using h1
   simp only [Lv.kind,Lv.num] at h
   unfold arityP at h2
   by_cases k1:k=1
   ·subst k1
    refine .inl ⟨rfl,List.eq_nil_of_length_eq_zero (by simpa using h2),?_⟩
    exact of_decide_eq_true h
   ·by_cases k2:k=2
    ·subst k2
     refine .inr (.inl ⟨rfl,List.eq_nil_of_length_eq_zero (by simpa using h2),?_⟩)
     exact of_decide_eq_true h
    ·by_cases k3:k=3
     ·subst k3
      refine .inr (.inr (.inl ⟨rfl,?_⟩))
      match ks,h2,hk with
      | [x],_,hk=>exact ⟨x,rfl,(of_decide_eq_true h).1,(of_decide_eq_true h).2,hk x (by simp)⟩
      | [],h2,_=>simp at h2
      | x :: y :: r,h2,_=>simp at h2;omega
     ·by_cases k4:k=4
      ·subst k4
       refine .inr (.inr (.inr ⟨rfl,?_⟩))
       match ks,h2,hk with
       | [x,y],_,hk=>exact ⟨x,y,rfl,hk x (by simp),hk y (by simp)⟩
       | [],h2,_=>simp at h2
       | [x],h2,_=>simp at h2
       | x :: y :: z :: r,h2,_=>simp at h2;omega
      ·simp [k1,k2,k3,k4] at h2
def NfAt (w:World) (S:Nat→Prop) (A:Option Addr) (i:Nat) (f:Nf):Prop:=
 ∃ b o A' c',A=some ⟨b,o,none⟩∧S b∧w.cell? ⟨b,o+i * 2,none⟩=some (.int .i64 f.1)∧w.cell? ⟨b,o+i * 2+1,none⟩=some (.slice A' f.2.length c')∧f.2.length≤c'∧IntsS w S A' f.2.length f.2
def NfsS (w:World) (S:Nat→Prop) (A:Option Addr) (fs:List Nf):Prop:=∀ (i:Nat) (f:Nf),fs[i]?=some f→NfAt w S A i f
theorem NfAt.same {w w':World} {S:Nat→Prop} {A:Option Addr} {i:Nat} {f:Nf} (h:NfAt w S A i f) (hs:∀ k,S k→k<w.heap.size→w'.heap[k]?=w.heap[k]?):NfAt w' S A i f:=by
 obtain ⟨b,o,A',c',e,hb,h1,h2,h3,h4⟩:=h
 have hz:b<w.heap.size:=World.block_lt_of_cell? w _ h1
 have key:∀ j,w'.cell? ⟨b,j,none⟩=w.cell? ⟨b,j,none⟩:=fun j=>cell_same (hs _ hb hz)
 exact ⟨b,o,A',c',e,hb,(key _).trans h1,(key _).trans h2,h3,h4.same hs⟩
theorem NfAt.mono {w:World} {S S':Nat→Prop} {A:Option Addr} {i:Nat} {f:Nf} (h:NfAt w S A i f) (hs:∀ k,S k→k<w.heap.size→S' k):NfAt w S' A i f:=by
 obtain ⟨b,o,A',c',e,hb,h1,h2,h3,h4⟩:=h
 exact ⟨b,o,A',c',e,hs _ hb (World.block_lt_of_cell? w _ h1),h1,h2,h3,h4.mono hs⟩
theorem NfsS.same {w w':World} {S:Nat→Prop} {A:Option Addr} {fs:List Nf} (h:NfsS w S A fs) (hs:∀ k,S k→k<w.heap.size→w'.heap[k]?=w.heap[k]?):NfsS w' S A fs:=fun i f hf=>(h i f hf).same hs
theorem NfsS.mono {w:World} {S S':Nat→Prop} {A:Option Addr} {fs:List Nf} (h:NfsS w S A fs) (hs:∀ k,S k→k<w.heap.size→S' k):NfsS w S' A fs:=fun i f hf=>(h i f hf).mono hs
theorem NfsS.nil (w:World) (S:Nat→Prop) (A:Option Addr):NfsS w S A []:=fun i f hf=>by simp at hf

end Go.Proofs.Ytdboloabpjmgaaa

namespace Go.Proofs.Ytdboloabpjmgaaa
open Go.RowKit Go.Proofs.YtdboloabpjmgaaaW.PrintWords Go.RegionInvYtdboloabpjmgaaa Go.RegionEYtdboloabpjmgaaa

theorem lit_kid {w:World} {S:Nat→Prop} {gb off:Nat} {i:Nat} {a b:Int} {A':Option Addr} {n' c':Nat} (h:CellsAt w S (some ⟨gb,off,none⟩) i a b A' n' c') :
  w.cell? ⟨gb,off+i * 3,none⟩=some (.int .i64 a)∧w.cell? ⟨gb,off+i * 3+1,none⟩=some (.int .i64 b)∧w.cell? ⟨gb,off+i * 3+2,none⟩=some (.slice A' n' c'):=by
 obtain ⟨ad,e,_,_,h1,h2,h3⟩:=h
 obtain rfl:=Option.some.inj e
 simpa only [add_flat,Nat.add_assoc] using (⟨h1,h2,h3⟩:_∧_∧_)
theorem kid_ptr {w:World} {S:Nat→Prop} {A:Option Addr} {i:Nat} {a b:Int} {A':Option Addr} {n' c':Nat} (h:CellsAt w S A i a b A' n' c'):∃ gb off,A=some ⟨gb,off,none⟩∧S gb:=by
 obtain ⟨⟨gb,off,sp⟩,e,hs,hsp,_⟩:=h
 obtain rfl:sp=none:=hsp
 exact ⟨gb,off,e,hs⟩
end Go.Proofs.Ytdboloabpjmgaaa

namespace Go.Proofs.Ytdboloabpjmgaaa
open Go.RowKit Go.Proofs.YtdboloabpjmgaaaW.PrintWords Go.RegionInvYtdboloabpjmgaaa Go.RegionEYtdboloabpjmgaaa

theorem IntsS.take {w:World} {S:Nat→Prop} {A:Option Addr} {n:Nat} {ks:List Int} (h:IntsS w S A n ks) {j:Nat} (hj:j≤n):IntsS w S A j (ks.take j):=by
 refine ⟨⟨by simp;have:=h.1.1;omega,by have:=h.1.2.1;omega,fun h0=>?_⟩,fun h0=>h.2 (by omega)⟩
 obtain ⟨ad,e,hc⟩:=h.1.2.2 (by omega)
 refine ⟨ad,e,fun i hi=>?_⟩
 rw [hc i (by omega)]
 simp [List.getD_eq_getElem?_getD,List.getElem?_take,hi]
end Go.Proofs.Ytdboloabpjmgaaa

namespace Go.Proofs.Ytdboloabpjmgaaa
open Go.RowKit Go.Proofs.YtdboloabpjmgaaaW.PrintWords Go.RegionInvYtdboloabpjmgaaa Go.RegionEYtdboloabpjmgaaa

def sumP (l:Lv):Nf:=ofP [] l
end Go.Proofs.Ytdboloabpjmgaaa

namespace Go.Proofs.Ytdboloabpjmgaaa
open Go.RowKit Go.Proofs.YtdboloabpjmgaaaW.PrintWords

mutual
def sz:Lv→Nat
 | .mk _ _ ks=>szs ks+1
def szs:List Lv→Nat
 | []=>0
 | x :: r=>sz x+szs r
end
mutual
def dp:Lv→Nat
 | .mk _ _ ks=>dps ks+1
def dps:List Lv→Nat
 | []=>0
 | x :: r=>max (dp x) (dps r)
end
theorem sz_mk (k n:Int) (ks:List Lv):sz (.mk k n ks)=szs ks+1:=by rw [sz]
theorem dp_mk (k n:Int) (ks:List Lv):dp (.mk k n ks)=dps ks+1:=by rw [dp]
theorem szs_cons (x:Lv) (r:List Lv):szs (x :: r)=sz x+szs r:=by rw [szs]
theorem dps_cons (x:Lv) (r:List Lv):dps (x :: r)=max (dp x) (dps r):=by rw [dps]
theorem szs_nil:szs []=0:=by rw [szs]
theorem dps_nil:dps []=0:=by rw [dps]
mutual
theorem walk_ok:(l:Lv)→(d s:Nat)→Good l→s+sz l≤1000→d+dp l≤257→walkP sndF l d s=(0,((s+sz l:Nat):Int))
 | .mk k n ks,d,s,hg,hs,hd=>by
  cases hg with
  | mk h hk =>
   rw [sz_mk] at hs ⊢
   rw [dp_mk] at hd
   have hf:sndF (.mk k n ks) d s=(0,(s:Int)+1):=sndF_ok (by rw [h];simp;omega)
   rw [walkP_go (by rw [hf]),hf]
   have:=walks_ok ks (d+1) (s+1) hk (by omega) (by omega) (by omega)
   simp only [Lv.kids]
   rw [show ((d:Int)+1)=((d+1:Nat):Int) by omega,show ((s:Int)+1)=((s+1:Nat):Int) by omega,this]
   congr 2;omega
theorem walks_ok:(ks:List Lv)→(d s:Nat)→(∀ x∈ks,Good x)→s+szs ks≤1000→d+dps ks≤257→d≤257→walkKs sndF ks d s=(0,((s+szs ks:Nat):Int))
 | [],d,s,_,_,_,_=>by rw [walkKs,szs_nil];rfl
 | x :: r,d,s,hg,hs,hd,_=>by
  rw [szs_cons] at hs ⊢
  rw [dps_cons] at hd
  have h1:=walk_ok x d s (hg x (by simp)) (by omega) (by omega)
  rw [walkKs_go (by rw [h1]),h1]
  have:=walks_ok r d (s+sz x) (fun y hy=>hg y (by simp [hy])) (by omega) (by omega) (by omega)
  rw [this]
  congr 2;omega
end
mutual
theorem walk_back:(l:Lv)→(d s:Nat)→(walkP sndF l d s).1=0→(walkP sndF l d s).2=((s+sz l:Nat):Int)∧s+sz l≤1000∧d+dp l≤257
 | .mk k n ks,d,s,h=>by
  by_cases h1:(sndF (.mk k n ks) d s).1=0
  ·have h2:=sndF_small' (by omega) h1
   rw [walkP_go h1] at h ⊢
   rw [h2.2.2.2] at h ⊢
   simp only [Lv.kids] at h ⊢
   rw [show ((d:Int)+1)=((d+1:Nat):Int) by omega,show ((s:Int)+1)=((s+1:Nat):Int) by omega] at h ⊢
   have:=walks_back ks (d+1) (s+1) (by omega) (by omega) h
   rw [sz_mk,dp_mk]
   refine ⟨?_,by omega,by omega⟩
   rw [this.1];congr 1;omega
  ·rw [walkP_stop h1] at h;exact absurd h h1
theorem walks_back:(ks:List Lv)→(d s:Nat)→s≤1000→d≤257→(walkKs sndF ks d s).1=0→(walkKs sndF ks d s).2=((s+szs ks:Nat):Int)∧s+szs ks≤1000∧d+dps ks≤257
 | [],d,s,h0,h1,_=>by rw [walkKs,szs_nil,dps_nil];exact ⟨rfl,by omega,by omega⟩
 | x :: r,d,s,h0,h1,h=>by
  by_cases h2:(walkP sndF x d s).1=0
  ·have h3:=walk_back x d s h2
   rw [walkKs_go h2] at h ⊢
   rw [h3.1] at h ⊢
   have h4:=walks_back r d (s+sz x) h3.2.1 h1 h
   rw [szs_cons,dps_cons]
   refine ⟨?_,by omega,by omega⟩
   rw [h4.1];congr 1;omega
  ·rw [walkKs_stop h2] at h;exact absurd h h2
end
theorem sound_iff (l:Lv):soundB l=true↔Good l∧sz l≤1000∧dp l≤256:=by
 constructor
 ·intro h
  have h1:(walkP sndF l (1:Nat) (0:Nat)).1=0:=by simpa [soundB] using h
  have:=walk_back l 1 0 h1
  exact ⟨good_of_sound h,by omega,by omega⟩
 ·rintro ⟨hg,hs,hd⟩
  have:=walk_ok l 1 0 hg (by omega) (by omega)
  unfold soundB
  have e:walkP sndF l 1 0=_:=this
  rw [e];rfl

mutual
theorem sz_cp:(l:Lv)→sz (cpP l)=sz l
 | .mk k n ks=>by rw [cpP,sz_mk,sz_mk,szs_cp ks]
theorem szs_cp:(ks:List Lv)→szs (cpKs ks)=szs ks
 | []=>by rw [cpKs]
 | x :: r=>by rw [cpKs,szs_cons,szs_cons,sz_cp x,szs_cp r]
end
mutual
theorem dp_cp:(l:Lv)→dp (cpP l)=dp l
 | .mk k n ks=>by rw [cpP,dp_mk,dp_mk,dps_cp ks]
theorem dps_cp:(ks:List Lv)→dps (cpKs ks)=dps ks
 | []=>by rw [cpKs]
 | x :: r=>by rw [cpKs,dps_cons,dps_cons,dp_cp x,dps_cp r]
end
theorem good_num {n:Int} (h0:0≤n) (h1:n≤1099511627776):Good (.mk 1 n []):=.mk (by rw [right_num (by simp [arityP])];simp;omega) (fun x hx=>by cases hx)
theorem good_var {n:Int} (h0:0≤n) (h1:n≤1000):Good (.mk 2 n []):=.mk (by unfold rightP;rw [if_neg (by simp [Lv.kids,Lv.kind,arityP]),if_neg (by simp [Lv.kind]),if_neg (by simp [Lv.kind]),if_pos (by rfl)];exact decide_eq_true ⟨h0,h1⟩) (fun x hx=>by cases hx)
theorem good_succ {n:Int} {x:Lv} (h0:1≤n) (h1:n≤1099511627776) (h:Good x):Good (.mk 3 n [x]):=.mk (by rw [right_succ (by simp [arityP])];simp;omega) (fun y hy=>(show x=y by simpa using (List.mem_singleton.1 hy).symm) ▸ h)
theorem good_max {n:Int} {x y:Lv} (hx:Good x) (hy:Good y):Good (.mk 4 n [x,y]):=.mk (by unfold rightP;simp [Lv.kids,Lv.kind,Lv.num,arityP]) (fun z hz=>by
 rcases List.mem_cons.1 hz with rfl | hz
 ·exact hx
 ·obtain rfl:z=y:=by simpa using hz
  exact hy)
theorem cp_both:∀ {l:Lv},Good l→Good (cpP l)∧∀ fs,ofP fs (cpP l)=ofP fs l:=by
 intro l h
 induction h with
 | @mk k n ks h hk ih =>
  rcases good_cases (.mk h hk) with ⟨rfl,rfl,h0,h1⟩ | ⟨rfl,rfl,h0,h1⟩ | ⟨rfl,x,rfl,h0,h1,-⟩ | ⟨rfl,x,y,rfl,-,-⟩
  ·rw [cpP,cpKs,if_neg (by decide)];exact ⟨good_num h0 h1,fun fs=>rfl⟩
  ·rw [cpP,cpKs,if_neg (by decide)];exact ⟨good_var h0 h1,fun fs=>rfl⟩
  ·rw [cpP,cpKs,cpKs,if_neg (by decide)]
   have:=ih x (by simp)
   exact ⟨good_succ h0 h1 this.1,fun fs=>by rw [ofP_succ,ofP_succ,this.2]⟩
  ·rw [cpP,cpKs,cpKs,cpKs,if_pos rfl]
   have hx:=ih x (by simp)
   have hy:=ih y (by simp)
   exact ⟨good_max hx.1 hy.1,fun fs=>by rw [ofP_max,ofP_max,hx.2,hy.2]⟩
theorem own_eq {l:Lv} (h:soundB l=true):owP l=cpP l:=owP_sound h
theorem own_good {l:Lv} (h:soundB l=true):Good (owP l):=by rw [own_eq h];exact (cp_both (good_of_sound h)).1
theorem own_sz {l:Lv} (h:soundB l=true):sz (owP l)=sz l:=by rw [own_eq h];exact sz_cp l
theorem own_dp {l:Lv} (h:soundB l=true):dp (owP l)=dp l:=by rw [own_eq h];exact dp_cp l
theorem own_sound {l:Lv} (h:soundB l=true):soundB (owP l)=true:=by
 rw [sound_iff,own_sz h,own_dp h]
 exact ⟨own_good h,((sound_iff l).1 h).2⟩

end Go.Proofs.Ytdboloabpjmgaaa

namespace Go.Proofs.Ytdboloabpjmgaaa
open Go.RowKit Go.Proofs.YtdboloabpjmgaaaW.PrintWords Go.RegionInvYtdboloabpjmgaaa Go.RegionEYtdboloabpjmgaaa

set_option maxHeartbeats 2000000 in
theorem refSound_calls (A:Option Addr) (c:Nat) (l:Lv) (w:World) (hin:LvIn w w.heap.size A c l) :
  Calls Try.prog 72 #[lvV A c l] w fun e w'=>e=.returned (.bool (soundB l))∧Below w.heap.size w w':=by
 have HIN:=Ak hin
 clear hin
 unfold lvV
 go_enter Try.func72,Try.ntmps72
 have hnew:NumAt ((w.alloc (.cells #[.int .i64 l.kind,.int .i64 l.num,.slice A l.kids.length c] 25 (0,0))).alloc (.cells #[.int .i64 0] 3 (0,0))) (w.heap.size+1) 0:=by
  have:=blk_new (w.alloc (.cells #[.int .i64 l.kind,.int .i64 l.num,.slice A l.kids.length c] 25 (0,0))) (.cells #[.int .i64 0] 3 (0,0))
  simpa [NumAt] using this
 have HNEW:=Ak hnew
 clear hnew
 go_wp2_with (go_at_call 103;go_must (refine (ref_sound _ l (Nat.lt_succ_self _) A c 1 0 (w.heap.size+1) w.heap.size _ (LvIn.stay HIN.out (below_alloc (below_alloc (Below.refl _ _) _) _)) HNEW.out (Nat.le_succ _) (by decide) (by decide) (by decide) (by decide)).mono ?_;rintro e w1 ⟨rfl,-,hc⟩;have HB:=Ak (two_below hc);clear hc))
 go_ret
 exact ⟨rfl,HB.out⟩
abbrev bx2 (w:World) (A B:Option Addr) (c c':Nat) (a b:Lv):World:=(w.alloc (.cells #[.int .i64 a.kind,.int .i64 a.num,.slice A a.kids.length c] 25 (0,0))).alloc (.cells #[.int .i64 b.kind,.int .i64 b.num,.slice B b.kids.length c'] 25 (0,0))
end Go.Proofs.Ytdboloabpjmgaaa

namespace Go.Proofs.Ytdboloabpjmgaaa
open Go.RowKit Go.Proofs.YtdboloabpjmgaaaW.PrintWords Go.RegionInvYtdboloabpjmgaaa

mutual
theorem cp_cp:(l:Lv)→cpP (cpP l)=cpP l
 | .mk k n ks=>by
  rw [cpP,cpP,cps_cps ks]
  split <;> rfl
theorem cps_cps:(ks:List Lv)→cpKs (cpKs ks)=cpKs ks
 | []=>by rw [cpKs,cpKs]
 | x :: r=>by rw [cpKs,cpKs,cp_cp x,cps_cps r]
end
theorem own_own {l:Lv} (h:soundB l=true):owP (owP l)=owP l:=by rw [owP_sound (own_sound h),owP_sound h,cp_cp]
structure LfOk (x:Tm):Prop where
 lv:x.kind=2→soundB x.lv=true
 ls:x.kind=7→∀ l∈x.ls,soundB l=true
theorem leafR_node {t:Tm} (h:leafT t=false):leafR t=false:=by
 cases hr:leafR t with
 | false=>rfl
 | true=>exact absurd (nK_leaf hr) (leaf_nK' h)
theorem kind_node {t:Tm} (h:leafT t=false):t.kind≠1∧t.kind≠2∧t.kind≠7:=by
 have:=nK_ar (leaf_nK' h)
 have h0:=leaf_nK' h
 refine ⟨fun e=>?_,fun e=>?_,fun e=>?_⟩ <;> (rw [e] at this;have e2:(nK t:Int)=0:=this;omega)
theorem node_leafR {x:Tm} (hl:leafT x=true):leafR (nodeP x)=leafR x:=by
 have h0:=leaf_nK hl
 unfold leafR
 have e:(nodeP x).kids.length=0:=rfl
 have ek:(nodeP x).kind=x.kind:=rfl
 rw [e,ek]
 unfold nK at h0
 have:=arZ_in x.kind
 congr 1
 simp only [eq_iff_iff]
 split at h0
 ·omega
 ·omega
theorem nK_nodeP (x:Tm):nK (nodeP x)=0:=nK_none rfl
theorem leafT_of {x:Tm} (h:nK x=0):leafT x=true:=decide_eq_true h
inductive MayN (v:Int):Tm→Prop
 | mk {t:Tm} (h:mnP v t=0) (hk:∀ i:Fin (nK t),MayN v (kidF t i)):MayN v t
structure Whole (t:Tm):Prop where
 lf:∀ b,AllL (fun x _=>LfOk x) t b
 num:∀ b,AllL (fun x _=>x.kind=1→0≤x.num∧x.num≤1048576) t b
 fine:Fine t
 depth:depthT t≤64
 size:sizeT t≤400
 may:MayN 6 t
theorem Whole.ok {t:Tm} (h:Whole t):okT t:=⟨by have:=h.size;omega,by have:=h.depth;omega⟩
end Go.Proofs.Ytdboloabpjmgaaa

namespace Go.Proofs.Ytdboloabpjmgaaa
open Go.RowKit Go.Proofs.YtdboloabpjmgaaaW.PrintWords Go.RegionInvYtdboloabpjmgaaa

theorem leafT_var (n:Int):leafT (varT n)=true:=leafT_of (nK_var n)
end Go.Proofs.Ytdboloabpjmgaaa

namespace Go.Proofs.Ytdboloabpjmgaaa
open Go.RowKit Go.Proofs.YtdboloabpjmgaaaW.PrintWords Go.RegionInvYtdboloabpjmgaaa Go.RegionEYtdboloabpjmgaaa

inductive Bt:Tm→Prop
 | var:Bt (varT 0)
 | zero:Bt zeroT
 | app {x y:Tm} (hx:Bt x) (hy:Bt y):Bt (appT x y)
theorem reb_appT (RF:Tm→Int→Tm) (x y:Tm):rebP RF (appT x y) 0=appT (rebP RF x 0) (rebP RF y 0):=by
 unfold appT
 rw [reb_app]
 rfl
theorem Bt.same {F G:Tm→Int→Tm} (h0:F (varT 0) 0=G (varT 0) 0) (h1:F zeroT 0=G zeroT 0) {t:Tm} (h:Bt t):rebP F t 0=rebP G t 0:=by
 induction h with
 | var=>rw [reb_leaf (leafT_var 0),reb_leaf (leafT_var 0)];exact h0
 | zero=>rw [reb_leaf rfl,reb_leaf rfl];exact h1
 | app _ _ i j=>rw [reb_appT,reb_appT,i,j]
theorem Bt.id {F:Tm→Int→Tm} (h0:F (varT 0) 0=varT 0) (h1:F zeroT 0=zeroT) {t:Tm} (h:Bt t):rebP F t 0=t:=by
 induction h with
 | var=>rw [reb_leaf (leafT_var 0)];exact h0
 | zero=>rw [reb_leaf rfl];exact h1
 | app _ _ i j=>rw [reb_appT,i,j]
end Go.Proofs.Ytdboloabpjmgaaa

namespace Go.Proofs.Ytdboloabpjmgaaa
open Go.RowKit Go.Proofs.YtdboloabpjmgaaaW.PrintWords Go.RegionInvYtdboloabpjmgaaa Go.RegionEYtdboloabpjmgaaa

structure InsBS (w W:World) (S:Nat→Prop) (p pv:Pl) (t v:Tm):Prop where
 bt:W.heap[w.heap.size]?=some (tmO p t)
 bv:W.heap[w.heap.size+1]?=some (tmO pv v)
 br:W.heap[w.heap.size+1+1]?=some (outK 0 (.slice none 0 0))
 bel:Below w.heap.size w W
 it:TmS W S p t
 iv:TmS W S pv v
theorem InsBS.far {w W W':World} {S:Nat→Prop} {g0:Nat} {p pv:Pl} {t v:Tm} (h:InsBS w W S p pv t v) (hS:∀ k,S k→k<g0) (hg0:g0≤w.heap.size) (hb:Below (w.heap.size+3) W W'):InsBS w W' S p pv t v:=
 ⟨(hb.block _ (by omega)).trans h.bt,(hb.block _ (by omega)).trans h.bv,(hb.block _ (by omega)).trans h.br,Below.trans h.bel (hb.mono (by omega)),h.it.stay hS (hb.mono (by omega)),h.iv.stay hS (hb.mono (by omega))⟩
end Go.Proofs.Ytdboloabpjmgaaa

namespace Go.Proofs.Ytdboloabpjmgaaa
open Go.RowKit Go.Proofs.YtdboloabpjmgaaaW.PrintWords Go.RegionInvYtdboloabpjmgaaa Go.RegionEYtdboloabpjmgaaa

structure TwoB (w W:World) (pa pb:Pl) (a b:Tm):Prop where
 ba:W.heap[w.heap.size]?=some (tmO pa a)
 bb:W.heap[w.heap.size+1]?=some (tmO pb b)
 bel:Below w.heap.size w W
 ia:TmIn W w.heap.size pa a
 ib:TmIn W w.heap.size pb b
theorem TwoB.later {w W W':World} {pa pb:Pl} {a b:Tm} (h:TwoB w W pa pb a b) (hb:Below W.heap.size W W'):TwoB w W' pa pb a b:=
 ⟨(hb.block _ (blk_lt h.ba)).trans h.ba,(hb.block _ (blk_lt h.bb)).trans h.bb,below_then h.bel h.bel.size hb,h.ia.stay (hb.mono h.bel.size),h.ib.stay (hb.mono h.bel.size)⟩
structure BoxT (W:World) (g:Nat) (q:Pl) (t:Tm):Prop where
 x:W.heap[g]?=some (tmO q t)
 i:TmIn W W.heap.size q t
theorem BoxT.later {W W':World} {g:Nat} {q:Pl} {t:Tm} (h:BoxT W g q t) (hb:Below W.heap.size W W'):BoxT W' g q t:=⟨(hb.block _ (blk_lt h.x)).trans h.x,TmS.all (TmS.later h.i hb)⟩
end Go.Proofs.Ytdboloabpjmgaaa

namespace Go.Proofs.Ytdboloabpjmgaaa
open Go.RowKit Go.Proofs.YtdboloabpjmgaaaW.PrintWords Go.RegionInvYtdboloabpjmgaaa Go.RegionEYtdboloabpjmgaaa

def TmBox (p:Nat) (T:Nat→Prop) (t:Tm) (w:World) (O:Nat→Prop):Prop:=∃ q,w.heap[p]?=some (tmO q t)∧O p∧TmS w (fun k=>T k∨(O k∧k≠p)) q t
theorem stableE_tmbox {w0:World} {E:Nat→Nat→Prop} {T:Nat→Prop} {t:Tm} {p:Nat} (hT:∀ k,T k→Fix w0 E k):StableE w0 E (fun _ w O=>TmBox p T t w O):=by
 rintro v w w' O ⟨q,hb,hO,h⟩ hz hk
 exact ⟨q,(hk p (blk_lt hb) (.inr hO)).trans hb,hO,h.same fun k hk' hz'=>hk k hz' (hk'.imp (hT k) And.left)⟩
theorem all_one {l:List Value} (h:l.all (·.oneCell')=true):l.toArray.all (·.oneCell')=true:=by rw [List.all_toArray];exact h
section
variable {ops:Array Oper} {Q:Exit→Act→World→Prop} {R:Nat→Prop} {a:Act} {w:World} {o:Oper} {T:Nat→Prop}
theorem tm_one (q:Pl) (t:Tm):(#[.int .i64 t.kind,.int .i64 t.num,.string t.name,.int .i64 t.lv.kind,.int .i64 t.lv.num,.slice q.A t.lv.kids.length q.c,.slice q.B t.ls.length q.d,.slice q.K t.kids.length q.e]:Array Value).all (·.oneCell')=true:=all_one (l:=[.int .i64 t.kind,.int .i64 t.num,.string t.name,.int .i64 t.lv.kind,.int .i64 t.lv.num,.slice q.A t.lv.kids.length q.c,.slice q.B t.ls.length q.d,.slice q.K t.kids.length q.e]) rfl
theorem obE_tmPut {V7:Value} {t t0:Tm} {q0:Pl} {O2:Nat→Prop} {x y:Operand} {g:Nat} (ho:o.op=.store 28 x y) (hw:Region.wanted o (yielded ops a.tmps)=true) (hx:a.eval x=.pointer (some ⟨g,0,none⟩))
  (hg:w.heap[g]?=some (tmO q0 t0)) (h2:TmO T t (a.eval y) w O2) (hRg:R g) (hR2:∀ k,O2 k→R k) (hTg:¬ T g) (hOg:¬ O2 g) (hV:V7=.pointer (some ⟨g,0,none⟩)) :
  OwesE Try.prog ops Q R (fun _ w O=>∃ p,V7=.pointer (some ⟨p,0,none⟩)∧TmBox p T t w O) o a w:=by
 obtain ⟨q,hy,ht⟩:=h2
 have hs:=run_storeVar_row (P:=Try.prog) w g 28 28 _ #[.int .i64 t.kind,.int .i64 t.num,.string t.name,.int .i64 t.lv.kind,.int .i64 t.lv.num,.slice q.A t.lv.kids.length q.c,.slice q.B t.ls.length q.d,.slice q.K t.kids.length q.e] hg (by kernel_rfl) rfl (tm_one q t)
 have hother:∀ k,k≠g→(w.setRow g #[.int .i64 t.kind,.int .i64 t.num,.string t.name,.int .i64 t.lv.kind,.int .i64 t.lv.num,.slice q.A t.lv.kids.length q.c,.slice q.B t.ls.length q.d,.slice q.K t.kids.length q.e]).heap[k]?=w.heap[k]?:=fun k hk=>setRow_other w g k _ hk
 refine obE_store (w':=w.setRow g _) (fun k=>k=g∨O2 k) hw ?_ ⟨rfl,rfl,rfl,Nat.le_of_eq (size_setRow _ _ _).symm,fun k _ hn=>hother k (fun e=>hn (e ▸ hRg))⟩ ⟨g,hV,q,setRow_heap w g _ _ _ _ hg,.inl rfl,?_⟩ (fun k h=>.inl (h.elim (fun h=>h ▸ hRg) (hR2 k)))
 ·unfold execOp
  simp only [ho,hx,hy,tmV,Instr.storeAt,Instr.sureAddr,Sem.run_bind,Sem.run_pure,Result.andThen_ok,hs]
 ·refine (ht.mono (S':=fun k=>(T k∨(k=g∨O2 k))∧k≠g) fun k h _=>⟨h.imp id .inr,fun e=>h.elim (fun h=>hTg (e ▸ h)) (fun h=>hOg (e ▸ h))⟩).same (fun k h _=>hother k h.2) |>.mono fun k h _=>h.1.imp id fun h'=>⟨h',h.2⟩
end
abbrev plz:Pl:=⟨none,0,none,0,none,0⟩
theorem TmS.any {w w':World} {S S':Nat→Prop} {q:Pl} {t:Tm} (h:TmS w S q t) (h1:t.lv.kids=[]) (h2:t.ls=[]) (h3:t.kids=[]):TmS w' S' q t:=by
 have hlv:=h.lv.len
 have hls:=h.ls.len
 have hk:=h.len
 have hf:=h.fit
 obtain ⟨k,n,nm,⟨lk,ln,lks⟩,ls,ks⟩:=t
 simp only [Tm.lv,Tm.ls,Tm.kids,Lv.kids] at h1 h2 h3
 subst h1 h2 h3
 refine .mk (fun _=>plz) ?_ ?_ hk.1 hk.2 hf (fun i x hx=>by simp at hx) (fun i x hx=>by simp at hx)
 ·exact .mk (fun _=>none) (fun _=>0) hlv.1 hlv.2 (fun i x hx=>by simp at hx) (fun i x hx=>by simp at hx)
 ·exact .mk (fun _=>none) (fun _=>0) hls.1 hls.2 (fun i x hx=>by simp at hx) (fun i x hx=>by simp at hx)
end Go.Proofs.Ytdboloabpjmgaaa

namespace Go.Proofs.Ytdboloabpjmgaaa
open Go.RowKit Go.Proofs.YtdboloabpjmgaaaW.PrintWords Go.RegionInvYtdboloabpjmgaaa

def enC (p:Pl) (x:Tm × Int):List Value:=tmC p x.1 ++ [.int .i64 x.2]
theorem enC_len (p:Pl) (x:Tm × Int):(enC p x).length=9:=rfl
def KidsE (w:World) (S:Nat→Prop) (lo:Nat) (V:Value) (xs:List (Tm × Int)):Prop:=
 ∃ (cells:List Value) (q:Nat→Pl),w.ownsRow lo 81 9 V xs.length cells ∧
  ∀ (i:Nat) (x:Tm × Int),xs[i]?=some x→(∀ (j:Nat) (v:Value),(enC (q i) x)[j]?=some v→cells[i * 9+j]?=some v)∧TmS w S (q i) x.1
theorem KidsE.nil (w:World) (S:Nat→Prop) (lo:Nat):KidsE w S lo (.slice none 0 0) []:=⟨[],fun _=>default,own_nil _ _ _ _,fun i x h=>by simp at h⟩
theorem KidsE.later {w w':World} {S:Nat→Prop} {lo:Nat} {V:Value} {xs:List (Tm × Int)} (h:KidsE w S lo V xs) (hb:Below w.heap.size w w'):KidsE w' S lo V xs:=by
 obtain ⟨cells,q,ho,hk⟩:=h
 exact ⟨cells,q,pw_own_below ho hb,fun i x hx=>⟨(hk i x hx).1,(hk i x hx).2.later hb⟩⟩
theorem KidsE.push {w w1:World} {S:Nat→Prop} {lo:Nat} {V v1:Value} {xs:List (Tm × Int)} {x:Tm × Int} {p:Pl} {cells:List Value} {q:Nat→Pl} (hS:∀ b,S b→b<lo) (ho:w.ownsRow lo 81 9 V xs.length cells)
  (hk:∀ (i:Nat) (x:Tm × Int),xs[i]?=some x→(∀ (j:Nat) (v:Value),(enC (q i) x)[j]?=some v→cells[i * 9+j]?=some v)∧TmS w S (q i) x.1)
  (hx:TmS w S p x.1) (ho1:w1.ownsRow lo 81 9 v1 (xs.length+1) (cells ++ enC p x))
  (hg:w.grownBy w1 V.ownBlock):KidsE w1 S lo v1 (xs ++ [x]):=by
 have keep:∀ {p:Pl} {y:Tm},TmS w S p y→TmS w1 S p y:=fun h=>h.same fun k hs hz=>hg.block k hz fun e=>by
  have:=own_base ho k e.symm
  have:=hS k hs
  omega
 have hl:=own_len ho
 refine ⟨_,fun i=>if i=xs.length then p else q i,by simpa using ho1,fun i y hy=>?_⟩
 rcases Nat.lt_or_ge i xs.length with hi | hi
 ·rw [List.getElem?_append_left hi] at hy
  obtain ⟨h1,h2⟩:=hk i y hy
  simp only [if_neg (show ¬ i=xs.length by omega)]
  refine ⟨fun j v hv=>?_,keep h2⟩
  have hj:j<9:=by have:=(List.getElem?_eq_some_iff.1 hv).1;rwa [enC_len] at this
  rw [List.getElem?_append_left (by omega)]
  exact h1 j v hv
 ·rw [List.getElem?_append_right hi] at hy
  have hi2:i=xs.length:=by
   cases e:i - xs.length with
   | zero=>omega
   | succ j=>rw [e] at hy;simp at hy
  subst hi2
  obtain rfl:x=y:=by simpa using hy
  simp only [↓reduceIte]
  refine ⟨fun j v hv=>?_,keep hx⟩
  rw [List.getElem?_append_right (by omega),show xs.length * 9+j - cells.length=j by omega]
  exact hv
end Go.Proofs.Ytdboloabpjmgaaa

namespace Go.Proofs.Ytdboloabpjmgaaa
open Go.RowKit Go.Proofs.YtdboloabpjmgaaaW.PrintWords Go.RegionInvYtdboloabpjmgaaa

set_option maxRecDepth 100000 in
set_option maxHeartbeats 4000000 in
theorem refSize_calls (t:Tm) (p:Pl) (w:World) (hin:TmIn w w.heap.size p t):Calls Try.prog 21 #[tmV p t] w fun e w'=>e=.returned (.int .i64 (measP t).1)∧Below w.heap.size w w':=by
 have HIN:=Ak hin
 obtain ⟨W,hW⟩:∃ W,W=(w.alloc (tmO p t)).alloc (.cells #[.int .i64 0] 3 (0,0)):=⟨_,rfl⟩
 have hb:Below w.heap.size w W:=by rw [hW];exact below_alloc (below_alloc (Below.refl _ _) _) _
 have HX:=Ak (show W.heap[w.heap.size]?=some (tmO p t) by rw [hW];exact blk_alloc (blk_new _ _) _)
 have HN1:=Ak (show NumAt W (w.heap.size+1) 0 by rw [hW];have:=blk_new (w.alloc (tmO p t)) (.cells #[.int .i64 0] 3 (0,0));simp only [World.size_alloc] at this;exact this)
 have HB:=Ak hb
 have HV:=Ak (great_ok t)
 clear hin hb
 unfold tmV
 unfold tmO at hW
 go_enter Try.func21,Try.ntmps21
 go_upto_region 2 with (fail)
 rw [← hW]
 clear hW
 by_cases hk:okT t
 ·have HM:=Ak (show (measP t).1=(sizeT t:Int) by rw [meas_yes hk])
  have HE:=Ak (show cntP t 1 0=(true,(sizeT t:Int)) by rw [cnt_ok _ t (Nat.lt_succ_self _) 1 0 (by have:=hk.2;omega) (by have:=hk.1;omega)];rw [Int.zero_add])
  clear hk
  go_upto_region 4 with (first
   | (refine wpList_load_row rfl 28 _ rfl w.heap.size rfl 28 _ (0,0) _ HX.out Try.underlying28 rfl (by kernel_rfl) ?_)
   | (go_at_call 67;go_must (refine (refcount_calls _ t (Nat.lt_succ_self _) p 1 0 (w.heap.size+1) w.heap.size W (HIN.out.stay HB.out) HN1.out (by omega) (by decide) (by decide) (by decide) (by decide)).mono ?_;rintro e w2 ⟨rfl,hN,hC⟩;rw [HE.out] at hN ⊢;have HN2:=Ak hN;have HB2:=Ak (Chg.trans_below HB.out hC (fun k h=>by omega) HB.out.size);clear hN hC)))
  have r1:=NumAt.cell HN2.out
  go_wp2
  go_ret
  rw [HM.out]
  exact ⟨rfl,HB2.out⟩
 ·have HM:=Ak (show (measP t).1=0 by rw [meas_no hk])
  have HE:=Ak (show (cntP t 1 0).1=false by rw [HV.out,decide_eq_false hk])
  clear hk
  go_wp2_with (first
   | (refine wpList_load_row rfl 28 _ rfl w.heap.size rfl 28 _ (0,0) _ HX.out Try.underlying28 rfl (by kernel_rfl) ?_)
   | (go_at_call 67;go_must (refine (refcount_calls _ t (Nat.lt_succ_self _) p 1 0 (w.heap.size+1) w.heap.size W (HIN.out.stay HB.out) HN1.out (by omega) (by decide) (by decide) (by decide) (by decide)).mono ?_;rintro e w2 ⟨rfl,-,hC⟩;rw [HE.out];have HB2:=Ak (Chg.trans_below HB.out hC (fun k h=>by omega) HB.out.size);clear hC)))
  go_ret
  rw [HM.out]
  exact ⟨rfl,HB2.out⟩
end Go.Proofs.Ytdboloabpjmgaaa

namespace Go.Proofs.Ytdboloabpjmgaaa
open Go.RowKit Go.Proofs.YtdboloabpjmgaaaW.PrintWords Go.RegionInvYtdboloabpjmgaaa Go.RegionEYtdboloabpjmgaaa
set_option linter.unusedVariables false

theorem KidsE.same {w w':World} {S:Nat→Prop} {lo:Nat} {V:Value} {xs:List (Tm × Int)} (h:KidsE w S lo V xs) (h1:∀ k,V.ownBlock=some k→w'.heap[k]?=w.heap[k]?) (h2:∀ k,S k→k<w.heap.size→w'.heap[k]?=w.heap[k]?):KidsE w' S lo V xs:=by
 obtain ⟨cells,q,ho,hk⟩:=h
 exact ⟨cells,q,ownsRow_same ho h1,fun i x hx=>⟨(hk i x hx).1,(hk i x hx).2.same h2⟩⟩
theorem KidsE.base {w:World} {S:Nat→Prop} {lo:Nat} {V:Value} {xs:List (Tm × Int)} (h:KidsE w S lo V xs) {k:Nat} (hk:V.ownBlock=some k):lo≤k∧k<w.heap.size:=by
 obtain ⟨cells,q,ho,_⟩:=h
 exact ⟨own_base ho k hk,own_lt ho k hk⟩
end Go.Proofs.Ytdboloabpjmgaaa

namespace Go.Proofs.Ytdboloabpjmgaaa
open Go.RowKit Go.Proofs.YtdboloabpjmgaaaW.PrintWords Go.RegionInvYtdboloabpjmgaaa Go.RegionEYtdboloabpjmgaaa

theorem app_row {w:World} {S:Nat→Prop} {g:Nat} {pa:Pl} {a:Tm} {pb:Pl} {b:Tm} (h:w.heap[g]?=some (.cells (tmC pa a ++ tmC pb b).toArray 28 (0,0))) (hg:S g) (ha:TmS w S pa a) (hb:TmS w S pb b):TmS w S ⟨none,0,none,0,some ⟨g,0,none⟩,2⟩ (appT a b):=by
 refine .mk (fun i=>if i=0 then pa else pb) (LvS.leaf _ _ _ _) (LvS.leaf _ _ _ _) (Nat.le_refl 2) (by show (2:Nat)≤9223372036854775807;decide) ⟨by decide,by decide,by decide⟩ ?_ ?_
 ·intro i x hx
  by_cases h0:i=0
  ·subst h0
   obtain rfl:a=x:=by simpa using hx
   refine ⟨g,0,rfl,hg,fun j v hv=>?_⟩
   have hj:j<8:=by have:=(List.getElem?_eq_some_iff.1 hv).1;rwa [tmC_len] at this
   have e:=row_at 0 h hj (by simp only [List.length_append,tmC_len];omega)
   rw [show 0+0 * 8+j=0+j by omega,e]
   have e2:(tmC pa a ++ tmC pb b)[0+j]?=(tmC pa a)[j]?:=by
    rw [List.getElem?_append_left (by rw [tmC_len];omega),Nat.zero_add]
   exact e2.trans hv
  by_cases h1:i=1
  ·subst h1
   obtain rfl:b=x:=by simpa using hx
   refine ⟨g,0,rfl,hg,fun j v hv=>?_⟩
   have hj:j<8:=by have:=(List.getElem?_eq_some_iff.1 hv).1;rwa [tmC_len] at this
   have e:=row_at 8 h hj (by simp only [List.length_append,tmC_len];omega)
   rw [show 0+1 * 8+j=8+j by omega,e]
   have e2:(tmC pa a ++ tmC pb b)[8+j]?=(tmC pb b)[j]?:=by
    rw [List.getElem?_append_right (by rw [tmC_len];omega),tmC_len,Nat.add_sub_cancel_left]
   exact e2.trans hv
  exfalso
  have:=(List.getElem?_eq_some_iff.1 hx).1
  simp only [List.length_cons,List.length_nil] at this
  omega
 ·intro i x hx
  by_cases h0:i=0
  ·subst h0
   obtain rfl:a=x:=by simpa using hx
   exact ha
  by_cases h1:i=1
  ·subst h1
   obtain rfl:b=x:=by simpa using hx
   exact hb
  exfalso
  have:=(List.getElem?_eq_some_iff.1 hx).1
  simp only [List.length_cons,List.length_nil] at this
  omega
set_option maxRecDepth 100000 in
set_option maxHeartbeats 8000000 in
theorem refapp_calls (S:Nat→Prop) (g0:Nat) (hS:∀ k,S k→k<g0) (pa:Pl) (a:Tm) (pb:Pl) (b:Tm) (w:World) (hg0:g0≤w.heap.size) (ha:TmS w S pa a) (hb:TmS w S pb b) :
  Calls Try.prog 19 #[tmV pa a,tmV pb b] w (TmGot w S (appT a b)):=by
 obtain ⟨W0,hW0⟩:∃ W0,W0=((w.alloc (tmO pa a)).alloc (tmO pb b)).alloc (outK 0 (.slice none 0 0)):=⟨_,rfl⟩
 have hb0:Below w.heap.size w W0:=by rw [hW0];exact below_alloc (below_alloc (below_alloc (Below.refl _ _) _) _) _
 have hz0:W0.heap.size=w.heap.size+1+1+1:=by rw [hW0];simp
 have HX0:=Ak (show W0.heap[w.heap.size]?=some (tmO pa a) by rw [hW0];exact blk_alloc (box0 w _ _) _)
 have HX1:=Ak (show W0.heap[w.heap.size+1]?=some (tmO pb b) by rw [hW0];exact blk_alloc (box1 w _ _) _)
 have hXR0:W0.heap[w.heap.size+1+1]?=some (outK 0 (.slice none 0 0)):=by
  rw [hW0]
  have:=blk_new ((w.alloc (tmO pa a)).alloc (tmO pb b)) (outK 0 (.slice none 0 0))
  simpa using this
 have HB0:=Ak hb0
 have HSS:=Ak hS
 have HA:=Ak ha
 have HBB:=Ak hb
 clear ha hb hS hb0
 unfold tmV
 unfold tmO at hW0
 go_enter Try.func19,Try.ntmps19
 go_upto_region 1 with (fail)
 rw [← hW0]
 clear hW0
 obtain ⟨r0,r1,r2,r3,r4,r5,r6,r7,f0,f1,f2,f3,f4,f5,f6,f7⟩:=row8c hXR0
 go_wp2_with (first
  | (refine wpList_load_row rfl 28 _ rfl (w.heap.size) rfl 28 _ (0,0) _ HX0.out Try.underlying28 rfl (by kernel_rfl) ?_)
  | (refine wpList_load_row rfl 28 _ rfl (w.heap.size+1) rfl 28 _ (0,0) _ HX1.out Try.underlying28 rfl (by kernel_rfl) ?_))
 have hch:=chg_set8 W0 (w.heap.size+1+1) (.int .i64 6) (.int .i64 0) (.string ⟨#[]⟩) (.int .i64 0) (.int .i64 0) (.slice none 0 0) (.slice none 0 0) (.slice (some ⟨w.heap.size+1+1+1,0,none⟩) 2 2)
 have hs8:=set8 (a0:=.int .i64 6) (a1:=.int .i64 0) (a2:=.string ⟨#[]⟩) (a3:=.int .i64 0) (a4:=.int .i64 0) (a5:=.slice none 0 0) (a6:=.slice none 0 0) (a7:=.slice (some ⟨w.heap.size+1+1+1,0,none⟩) 2 2) hXR0
 obtain ⟨W1,hW1⟩:∃ W1,W1=((((((((W0.setCell ⟨w.heap.size+1+1,0,none⟩ (.int .i64 6)).setCell ⟨w.heap.size+1+1,1,none⟩ (.int .i64 0)).setCell ⟨w.heap.size+1+1,2,none⟩ (.string ⟨#[]⟩)).setCell ⟨w.heap.size+1+1,3,none⟩ (.int .i64 0)).setCell ⟨w.heap.size+1+1,4,none⟩ (.int .i64 0)).setCell ⟨w.heap.size+1+1,5,none⟩ (.slice none 0 0)).setCell ⟨w.heap.size+1+1,6,none⟩ (.slice none 0 0)).setCell ⟨w.heap.size+1+1,7,none⟩ (.slice (some ⟨w.heap.size+1+1+1,0,none⟩) 2 2)):=⟨_,rfl⟩
 have hz1:W1.heap.size=w.heap.size+1+1+1:=by rw [hW1,← hz0];simp only [World.size_setCell]
 rw [← hW1] at hch hs8 ⊢
 clear hW1
 refine bodyPost_ret (results_c rfl _ _ (w.heap.size+1+1) 28 #[.int .i64 6,.int .i64 0,.string ⟨#[]⟩,.int .i64 0,.int .i64 0,.slice none 0 0,.slice none 0 0,.slice (some ⟨w.heap.size+1+1+1,0,none⟩) 2 2] (0,0) _ rfl (blk_alloc hs8 _) Try.underlying28 rfl (by kernel_rfl)) rfl ?_
 have hb1:Below w.heap.size w W1:=Chg.trans_below HB0.out hch (fun _ e=>by omega) (by omega)
 have hb2:Below w.heap.size w (W1.alloc (.cells (tmC pa a ++ tmC pb b).toArray 28 (0,0))):=hb1.alloc (by omega) _
 have hrow:=blk_new W1 (.cells (tmC pa a ++ tmC pb b).toArray 28 (0,0))
 rw [hz1] at hrow
 exact ⟨⟨none,0,none,0,some ⟨w.heap.size+1+1+1,0,none⟩,2⟩,rfl,app_row (S:=fun k=>S k∨w.heap.size≤k) hrow (.inr (by omega)) ((TmS.stay HA.out HSS.out (hb2.mono hg0)).mono fun k h _=>.inl h) ((TmS.stay HBB.out HSS.out (hb2.mono hg0)).mono fun k h _=>.inl h),hb2⟩
theorem zeroT_flat (w:World) (S:Nat→Prop):TmS w S plz zeroT:=TmS.flat (LvS.leaf _ _ _ _) (LvS.leaf _ _ _ _) _ _ _ ⟨by decide,by decide,by simp⟩
set_option maxRecDepth 100000 in
set_option maxHeartbeats 4000000 in
theorem fits_calls (S:Nat→Prop) (g0:Nat) (hS:∀ k,S k→k<g0) {t:Tm} (hok:okT t) (p:Pl) (w:World) (hg0:g0≤w.heap.size) (hin:TmS w S p t) :
  Calls Try.prog 65 #[tmV p t] w (TmGot w S t):=by
 obtain ⟨W,hW⟩:∃ W,W=(w.alloc (tmO p t)).alloc (outK 0 (.slice none 0 0)):=⟨_,rfl⟩
 have hb:Below w.heap.size w W:=by rw [hW];exact below_alloc (below_alloc (Below.refl _ _) _) _
 have HX:=Ak (show W.heap[w.heap.size]?=some (tmO p t) by rw [hW];exact box0 w _ _)
 have HX1:=Ak (show W.heap[w.heap.size+1]?=some (outK 0 (.slice none 0 0)) by rw [hW];exact box1 w _ _)
 have HZ:=Ak (show w.heap.size+1<W.heap.size by rw [hW];simp)
 have HB:=Ak hb
 have HIN:=Ak (TmS.stay hin hS (hb.mono hg0))
 clear hin hb
 have HSS:=Ak hS
 have HG:=Ak (show (!decide (okT t))=false by simp [hok])
 clear hS hok
 unfold tmV
 unfold tmO at hW
 go_enter Try.func65,Try.ntmps65
 go_upto_region 1 with (fail)
 rw [← hW]
 clear hW
 go_upto_region 3 with (first
  | (refine wpList_load_row rfl 28 _ rfl (w.heap.size) rfl 28 _ (0,0) _ HX.out Try.underlying28 rfl (by kernel_rfl) ?_)
  | (go_at_call 26;go_must (refine (tooGreat_calls t p W (TmS.mono HIN.out fun k h _=>Nat.lt_of_lt_of_le (HSS.out k h) (Nat.le_trans hg0 HB.out.size))).mono ?_;rintro e w1 ⟨rfl,hb⟩;rw [HG.out];have HX01:=Ak ((hb.block _ (blk_lt HX.out)).trans HX.out);have HX11:=Ak ((hb.block _ (blk_lt HX1.out)).trans HX1.out);have HB1:=Ak (below_then HB.out HB.out.size hb);have HZ1:=Ak (show w.heap.size+1+1≤w1.heap.size by have:=hb.size;have:=HZ.out;omega);have HIN1:=Ak (TmS.stay HIN.out HSS.out (hb.mono (Nat.le_trans hg0 HB.out.size)));clear hb)))
 clear HX HX1 HB HIN
 obtain ⟨r0,r1,r2,r3,r4,r5,r6,r7,f0,f1,f2,f3,f4,f5,f6,f7⟩:=row8c HX11.out
 go_wp2_with (refine wpList_load_row rfl 28 _ rfl (w.heap.size) rfl 28 _ (0,0) _ HX01.out Try.underlying28 rfl (by kernel_rfl) ?_)
 refine bodyPost_ret (results_c rfl _ _ (w.heap.size+1) 28 #[.int .i64 t.kind,.int .i64 t.num,.string t.name,.int .i64 t.lv.kind,.int .i64 t.lv.num,.slice p.A t.lv.kids.length p.c,.slice p.B t.ls.length p.d,.slice p.K t.kids.length p.e] (0,0) _ rfl (set8 HX11.out) Try.underlying28 rfl (by kernel_rfl)) rfl ?_
 exact tm_retS (S:=S) (g:=w.heap.size+1) (m:=w.heap.size+1+1) (HIN1.out.mono fun k h _=>.inl h) (chg_set8 w1 (w.heap.size+1) (.int .i64 t.kind) (.int .i64 t.num) (.string t.name) (.int .i64 t.lv.kind) (.int .i64 t.lv.num) (.slice p.A t.lv.kids.length p.c) (.slice p.B t.ls.length p.d) (.slice p.K t.kids.length p.e)) hg0 (by omega) (by omega) HB1.out HSS.out
end Go.Proofs.Ytdboloabpjmgaaa

namespace Go.Proofs.Ytdboloabpjmgaaa
open Go.RowKit Go.Proofs.YtdboloabpjmgaaaW.PrintWords Go.RegionInvYtdboloabpjmgaaa Go.RegionEYtdboloabpjmgaaa
section
variable {P:Program} {ops:Array Oper} {Q:Exit→Act→World→Prop} {Cj:List Nat} {O:Nat→Nat→Prop} {G:Value→World→(Nat→Prop)→Prop} {o:Oper} {a:Act} {w:World}
theorem ob_neB {t t':TypeId} {x y:Operand} {m n:Bool} (b:Bool) (ho:o.op=.binOp .neq t x y t') (hx:a.eval x=.bool m) (hy:a.eval y=.bool n) (hu:P.underlying t=some .bool) (hb:(m != n)=b)
  (hw:Region.wanted o (yielded ops a.tmps)=true) (hG:G (.bool b) w fun _=>False):Owes P ops Q Cj O G o a w:=
 ob_run hw (by unfold execOp;rw [ho];simp only [];rw [hx,hy];subst hb;simp [go_sem,run_neq_bool w t m n hu,bne]) hG
end
end Go.Proofs.Ytdboloabpjmgaaa

namespace Go.Proofs.Ytdboloabpjmgaaa
open Go.RowKit Go.Proofs.YtdboloabpjmgaaaW.PrintWords Go.RegionInvYtdboloabpjmgaaa Go.RegionEYtdboloabpjmgaaa
set_option linter.unusedVariables false

theorem below_undrew {w0 w:World} (h:Below w0.drew.heap.size w0.drew w):Below w0.heap.size w0 w:=Below.trans (below_drew (Below.refl _ _)) h

end Go.Proofs.Ytdboloabpjmgaaa
