/-
  Merged: AlMy, TwoB, TmX, EnK, EndR, NeqB, SeR, SimC, SlB, SeW, Near, Men, EnU, Db, LvIn, LvsIn, TmInT, TmInM, NiP, NiQ, NiL, TsR, Rev, SpiP, Spi, RSp, MkP, SpS, NodL, ReIl, InsL, RefP, RfT, RfPl, RfBo.
-/
import Derived.Deep.Slices
import Derived.ChangeArms
import Derived.Deep.MidRow
import Derived.Test.YtdboloabpjmgaaaMSpines3
namespace Go.Proofs.Ytdboloabpjmgaaa
open Go.RowKit Go.Proofs.YtdboloabpjmgaaaW.PrintWords Go.RegionInvYtdboloabpjmgaaa

def wholeB (xs:List Tm):Bool:=xs.all fun x=>decide (mayT 6 x=0)
set_option maxRecDepth 100000 in
set_option maxHeartbeats 4000000 in
theorem whole_calls (g0:Nat) (L:Option Addr) (n c:Nat) (q:Nat→Pl) (xs:List Tm) (w:World) (hg0:g0≤w.heap.size) (hn:n=xs.length) (hn9:n≤100) (hin:TmsAt w g0 L q xs) :
  Calls Try.prog 36 #[.slice L n c] w fun e w'=>e=.returned (.bool (wholeB xs))∧Below w.heap.size w w':=by
 have HIN:=Ak hin
 have HN:=Ak hn
 have HB:=Ak (Below.refl w.heap.size w)
 obtain ⟨y,hy⟩:∃ y,y=wholeB xs:=⟨_,rfl⟩
 have HY:=Ak hy
 rw [← hy]
 clear hin hn hy
 go_enter Try.func36,Try.ntmps36
 go_wp2
 go_loopw [7] (fun i wr=>∃ (k:Nat),i=.int .i64 k∧k≤n∧Aside0 (∀ (j:Nat) (x:Tm),j<k→xs[j]?=some x→mayT 6 x=0)∧Aside0 (Below w.heap.size w wr)∧w.heap.size≤wr.heap.size) (fun i _=>n - (intOf i).toNat)
 case atStart=>exact ⟨0,rfl,Nat.zero_le _,⟨fun j x h=>by omega⟩,HB,Nat.le_refl _⟩
 case round =>
  clear HB
  obtain ⟨k,rfl,hk,HA,HB,hzw⟩:=hrel
  by_cases hlt:k<n
  ·have hlt2:k<xs.length:=by rw [← HN.out];exact hlt
   obtain ⟨x,hx⟩:∃ x,xs[k]?=some x:=⟨_,List.getElem?_eq_getElem hlt2⟩
   have HXK:=Ak hx
   obtain ⟨⟨bk,oo,hL,hSb,hcells⟩,hxin⟩:=HIN.out k x hx
   have hbk:∀ j v,(tmC (q k) x)[j]?=some v→wr.cell? ⟨bk,oo+k * 8+j,none⟩=some v:=fun j v hv=>(cell_same (HB.out.block bk hSb)).trans (hcells j v hv)
   have d0:=hbk 0 _ rfl
   have d1:=hbk 1 _ rfl
   have d2:=hbk 2 _ rfl
   have d3:=hbk 3 _ rfl
   have d4:=hbk 4 _ rfl
   have d5:=hbk 5 _ rfl
   have d6:=hbk 6 _ rfl
   have d7:=hbk 7 _ rfl
   rw [Nat.add_zero] at d0
   have HLL:=Ak hL
   have HXIN:=Ak (TmIn.stay hxin (HB.out.mono hg0))
   rw [hL]
   clear hL hcells hbk hx hlt2 hxin
   go_upto_region 4 with (fail)
   obtain ⟨W5,hW5⟩:∃ W5,W5=wr.alloc (tmO (q k) x):=⟨_,rfl⟩
   have hB5:Below wr.heap.size wr W5:=by rw [hW5];exact below_alloc (Below.refl _ _) _
   have HBX5:=Ak (show W5.heap[wr.heap.size]?=some (tmO (q k) x) by rw [hW5];exact blk_new _ _)
   have HIN5:=Ak (TmIn.stay HXIN.out (hB5.mono (by omega)))
   have HBW5:=Ak (below_then HB.out HB.out.size hB5)
   clear hB5
   unfold tmO at hW5
   rw [← hW5]
   clear hW5 d0 d1 d2 d3 d4 d5 d6 d7
   obtain ⟨m,hm⟩:∃ m,mayT 6 x=m:=⟨_,rfl⟩
   have HM:=Ak hm
   clear hm
   by_cases h0:m=0
   ·subst h0
    go_wp2_with (first
     | (refine wpList_load_row rfl 28 _ rfl (wr.heap.size) rfl 28 _ (0,0) _ HBX5.out Try.underlying28 rfl (by kernel_rfl) ?_)
     | (go_at_call 45;go_must (refine (refmayt_calls x (q k) 6 W5 (TmS.all HIN5.out)).mono ?_;rw [HM.out];rintro e w6 ⟨rfl,hb⟩;have HB6:=Ak (below_then HBW5.out HBW5.out.size hb);have hz6:=HB6.out.size;clear hb)))
    go_roundw
    case rel=>exact ⟨k+1,by go_num,by omega,⟨fun j z hj hz=>by
     by_cases e:j=k
     ·subst e
      rw [HXK.out] at hz
      cases hz
      exact HM.out
     ·exact HA.out j z (by omega) hz⟩,HB6,hz6⟩
    case measure=>(simp [intOf];try omega)
   ·have b1:(m == 0)=false:=by simp [h0]
    have b2:(m != 0)=true:=by simp [h0]
    have HF:=Ak (show false=y by
     rw [HY.out]
     unfold wholeB
     refine (List.all_eq_false.2 ⟨x,List.mem_of_getElem? HXK.out,?_⟩).symm
     rw [HM.out]
     simp [h0])
    clear h0
    go_wp2_with (first
     | (refine wpList_load_row rfl 28 _ rfl (wr.heap.size) rfl 28 _ (0,0) _ HBX5.out Try.underlying28 rfl (by kernel_rfl) ?_)
     | (go_at_call 45;go_must (refine (refmayt_calls x (q k) 6 W5 (TmS.all HIN5.out)).mono ?_;rw [HM.out];rintro e w6 ⟨rfl,hb⟩;have HB6:=Ak (below_then HBW5.out HBW5.out.size hb);clear hb)))
    go_ret
    exact ⟨by rw [← HF.out];rfl,HB6.out⟩
  ·obtain rfl:k=n:=by omega
   have hlt':decide ((k:Int)<k)=false:=by simp
   have HF:=Ak (show true=y by
    rw [HY.out]
    unfold wholeB
    refine (List.all_eq_true.2 fun x hx=>?_).symm
    obtain ⟨j,hj,e⟩:=List.getElem_of_mem hx
    exact decide_eq_true (HA.out j x (by rw [HN.out];exact hj) (by rw [List.getElem?_eq_getElem hj,e])))
   go_wp2
   go_ret
   exact ⟨by rw [← HF.out];rfl,HB.out⟩
end Go.Proofs.Ytdboloabpjmgaaa

namespace Go.Proofs.Ytdboloabpjmgaaa
open Go.RowKit Go.Proofs.YtdboloabpjmgaaaW.PrintWords Go.RegionInvYtdboloabpjmgaaa Go.RegionEYtdboloabpjmgaaa

structure TwoB (w W:World) (pa pb:Pl) (a b:Tm):Prop where
 ba:W.heap[w.heap.size]?=some (tmO pa a)
 bb:W.heap[w.heap.size+1]?=some (tmO pb b)
 bel:Below w.heap.size w W
 ia:TmIn W w.heap.size pa a
 ib:TmIn W w.heap.size pb b
theorem TwoB.later {w W W':World} {pa pb:Pl} {a b:Tm} (h:TwoB w W pa pb a b) (hb:Below W.heap.size W W'):TwoB w W' pa pb a b:=
 ⟨(hb.block _ (blk_lt h.ba)).trans h.ba,(hb.block _ (blk_lt h.bb)).trans h.bb,below_then h.bel h.bel.size hb,h.ia.stay (hb.mono h.bel.size),h.ib.stay (hb.mono h.bel.size)⟩
structure BoxT (W:World) (g:Nat) (q:Pl) (t:Tm):Prop where
 x:W.heap[g]?=some (tmO q t)
 i:TmIn W W.heap.size q t
theorem BoxT.later {W W':World} {g:Nat} {q:Pl} {t:Tm} (h:BoxT W g q t) (hb:Below W.heap.size W W'):BoxT W' g q t:=⟨(hb.block _ (blk_lt h.x)).trans h.x,TmS.all (TmS.later h.i hb)⟩
end Go.Proofs.Ytdboloabpjmgaaa

namespace Go.Proofs.Ytdboloabpjmgaaa
open Go.RowKit Go.Proofs.YtdboloabpjmgaaaW.PrintWords Go.RegionInvYtdboloabpjmgaaa Go.RegionEYtdboloabpjmgaaa

abbrev plz:Pl:=⟨none,0,none,0,none,0⟩
theorem TmS.any {w w':World} {S S':Nat→Prop} {q:Pl} {t:Tm} (h:TmS w S q t) (h1:t.lv.kids=[]) (h2:t.ls=[]) (h3:t.kids=[]):TmS w' S' q t:=by
 have hlv:=h.lv.len
 have hls:=h.ls.len
 have hk:=h.len
 have hf:=h.fit
 obtain ⟨k,n,nm,⟨lk,ln,lks⟩,ls,ks⟩:=t
 simp only [Tm.lv,Tm.ls,Tm.kids,Lv.kids] at h1 h2 h3
 subst h1 h2 h3
 refine .mk (fun _=>plz) ?_ ?_ hk.1 hk.2 hf (fun i x hx=>by simp at hx) (fun i x hx=>by simp at hx)
 ·exact .mk (fun _=>none) (fun _=>0) hlv.1 hlv.2 (fun i x hx=>by simp at hx) (fun i x hx=>by simp at hx)
 ·exact .mk (fun _=>none) (fun _=>0) hls.1 hls.2 (fun i x hx=>by simp at hx) (fun i x hx=>by simp at hx)
end Go.Proofs.Ytdboloabpjmgaaa

namespace Go.Proofs.Ytdboloabpjmgaaa
open Go.RowKit Go.Proofs.YtdboloabpjmgaaaW.PrintWords Go.RegionInvYtdboloabpjmgaaa

def enC (p:Pl) (x:Tm × Int):List Value:=tmC p x.1 ++ [.int .i64 x.2]
theorem enC_len (p:Pl) (x:Tm × Int):(enC p x).length=9:=rfl
def KidsE (w:World) (S:Nat→Prop) (lo:Nat) (V:Value) (xs:List (Tm × Int)):Prop:=
 ∃ (cells:List Value) (q:Nat→Pl),w.ownsRow lo 81 9 V xs.length cells ∧
  ∀ (i:Nat) (x:Tm × Int),xs[i]?=some x→(∀ (j:Nat) (v:Value),(enC (q i) x)[j]?=some v→cells[i * 9+j]?=some v)∧TmS w S (q i) x.1
theorem KidsE.nil (w:World) (S:Nat→Prop) (lo:Nat):KidsE w S lo (.slice none 0 0) []:=⟨[],fun _=>default,own_nil _ _ _ _,fun i x h=>by simp at h⟩
theorem KidsE.later {w w':World} {S:Nat→Prop} {lo:Nat} {V:Value} {xs:List (Tm × Int)} (h:KidsE w S lo V xs) (hb:Below w.heap.size w w'):KidsE w' S lo V xs:=by
 obtain ⟨cells,q,ho,hk⟩:=h
 exact ⟨cells,q,pw_own_below ho hb,fun i x hx=>⟨(hk i x hx).1,(hk i x hx).2.later hb⟩⟩
theorem KidsE.push {w w1:World} {S:Nat→Prop} {lo:Nat} {V v1:Value} {xs:List (Tm × Int)} {x:Tm × Int} {p:Pl} {cells:List Value} {q:Nat→Pl} (hS:∀ b,S b→b<lo) (ho:w.ownsRow lo 81 9 V xs.length cells)
  (hk:∀ (i:Nat) (x:Tm × Int),xs[i]?=some x→(∀ (j:Nat) (v:Value),(enC (q i) x)[j]?=some v→cells[i * 9+j]?=some v)∧TmS w S (q i) x.1)
  (hx:TmS w S p x.1) (ho1:w1.ownsRow lo 81 9 v1 (xs.length+1) (cells ++ enC p x))
  (hg:w.grownBy w1 V.ownBlock):KidsE w1 S lo v1 (xs ++ [x]):=by
 have keep:∀ {p:Pl} {y:Tm},TmS w S p y→TmS w1 S p y:=fun h=>h.same fun k hs hz=>hg.block k hz fun e=>by
  have:=own_base ho k e.symm
  have:=hS k hs
  omega
 have hl:=own_len ho
 refine ⟨_,fun i=>if i=xs.length then p else q i,by simpa using ho1,fun i y hy=>?_⟩
 rcases Nat.lt_or_ge i xs.length with hi | hi
 ·rw [List.getElem?_append_left hi] at hy
  obtain ⟨h1,h2⟩:=hk i y hy
  simp only [if_neg (show ¬ i=xs.length by omega)]
  refine ⟨fun j v hv=>?_,keep h2⟩
  have hj:j<9:=by have:=(List.getElem?_eq_some_iff.1 hv).1;rwa [enC_len] at this
  rw [List.getElem?_append_left (by omega)]
  exact h1 j v hv
 ·rw [List.getElem?_append_right hi] at hy
  have hi2:i=xs.length:=by
   cases e:i - xs.length with
   | zero=>omega
   | succ j=>rw [e] at hy;simp at hy
  subst hi2
  obtain rfl:x=y:=by simpa using hy
  simp only [↓reduceIte]
  refine ⟨fun j v hv=>?_,keep hx⟩
  rw [List.getElem?_append_right (by omega),show xs.length * 9+j - cells.length=j by omega]
  exact hv
end Go.Proofs.Ytdboloabpjmgaaa

namespace Go.Proofs.Ytdboloabpjmgaaa
open Go.RowKit Go.Proofs.YtdboloabpjmgaaaW.PrintWords Go.RegionInvYtdboloabpjmgaaa Go.RegionEYtdboloabpjmgaaa
set_option linter.unusedVariables false

theorem KidsE.same {w w':World} {S:Nat→Prop} {lo:Nat} {V:Value} {xs:List (Tm × Int)} (h:KidsE w S lo V xs) (h1:∀ k,V.ownBlock=some k→w'.heap[k]?=w.heap[k]?) (h2:∀ k,S k→k<w.heap.size→w'.heap[k]?=w.heap[k]?):KidsE w' S lo V xs:=by
 obtain ⟨cells,q,ho,hk⟩:=h
 exact ⟨cells,q,ownsRow_same ho h1,fun i x hx=>⟨(hk i x hx).1,(hk i x hx).2.same h2⟩⟩
theorem KidsE.base {w:World} {S:Nat→Prop} {lo:Nat} {V:Value} {xs:List (Tm × Int)} (h:KidsE w S lo V xs) {k:Nat} (hk:V.ownBlock=some k):lo≤k∧k<w.heap.size:=by
 obtain ⟨cells,q,ho,_⟩:=h
 exact ⟨own_base ho k hk,own_lt ho k hk⟩
end Go.Proofs.Ytdboloabpjmgaaa

namespace Go.Proofs.Ytdboloabpjmgaaa
open Go.RowKit Go.Proofs.YtdboloabpjmgaaaW.PrintWords Go.RegionInvYtdboloabpjmgaaa Go.RegionEYtdboloabpjmgaaa
section
variable {P:Program} {ops:Array Oper} {Q:Exit→Act→World→Prop} {Cj:List Nat} {O:Nat→Nat→Prop} {G:Value→World→(Nat→Prop)→Prop} {o:Oper} {a:Act} {w:World}
theorem ob_neB {t t':TypeId} {x y:Operand} {m n:Bool} (b:Bool) (ho:o.op=.binOp .neq t x y t') (hx:a.eval x=.bool m) (hy:a.eval y=.bool n) (hu:P.underlying t=some .bool) (hb:(m != n)=b)
  (hw:Region.wanted o (yielded ops a.tmps)=true) (hG:G (.bool b) w fun _=>False):Owes P ops Q Cj O G o a w:=
 ob_run hw (by unfold execOp;rw [ho];simp only [];rw [hx,hy];subst hb;simp [go_sem,run_neq_bool w t m n hu,bne]) hG
end
end Go.Proofs.Ytdboloabpjmgaaa

namespace Go.Proofs.Ytdboloabpjmgaaa
open Go.RowKit Go.Proofs.YtdboloabpjmgaaaW.PrintWords Go.RegionInvYtdboloabpjmgaaa Go.RegionEYtdboloabpjmgaaa
set_option linter.unusedVariables false

def spn_ops:List Oper:=[
 { dst:=some 6,op:=Go.Op.fieldAddr 28 (Go.Operand.tmp 2) 0,type:=0,pos:= "term.go:249",after:=#[],guard:=none },
 { dst:=some 7,op:=Go.Op.load 3 (Go.Operand.tmp 6),type:=3,pos:= "term.go:249",after:=#[{ on:=0,ground:=Go.Ground.data }],guard:=none },
 { dst:=some 8,op:=Go.Op.fieldAddr 28 (Go.Operand.tmp 3) 0,type:=0,pos:= "term.go:249",after:=#[],guard:=none },
 { dst:=some 9,op:=Go.Op.load 3 (Go.Operand.tmp 8),type:=3,pos:= "term.go:249",after:=#[{ on:=2,ground:=Go.Ground.data }],guard:=none },
 { dst:=some 10,op:=Go.Op.binOp Go.BinOp.neq 3 (Go.Operand.tmp 7) (Go.Operand.tmp 9) 3,type:=4,pos:= "term.go:249",after:=#[{ on:=1,ground:=Go.Ground.data },{ on:=3,ground:=Go.Ground.data }],guard:=none },
 { dst:=some 11,op:=Go.Op.move (Go.Operand.tmp 10),type:=4,pos:= "term.go:249",after:=#[{ on:=4,ground:=Go.Ground.data }],guard:=none },
 { dst:=some 12,op:=Go.Op.load 28 (Go.Operand.tmp 2),type:=28,pos:= "term.go:249",after:=#[{ on:=5,ground:=Go.Ground.guard }],guard:=some (5,false) },
 { dst:=some 13,op:=Go.Op.call { callee:=Go.Callee.value (Go.Operand.func 75),args:=#[Go.Operand.tmp 12],argTypes:=#[28] },type:=4,pos:= "term.go:249",after:=#[{ on:=6,ground:=Go.Ground.data },{ on:=5,ground:=Go.Ground.chain },{ on:=5,ground:=Go.Ground.guard }],guard:=some (5,false) },
 { dst:=some 14,op:=Go.Op.load 28 (Go.Operand.tmp 3),type:=28,pos:= "term.go:249",after:=#[{ on:=5,ground:=Go.Ground.guard }],guard:=some (5,false) },
 { dst:=some 15,op:=Go.Op.call { callee:=Go.Callee.value (Go.Operand.func 75),args:=#[Go.Operand.tmp 14],argTypes:=#[28] },type:=4,pos:= "term.go:249",after:=#[{ on:=8,ground:=Go.Ground.data },{ on:=7,ground:=Go.Ground.chain },{ on:=5,ground:=Go.Ground.guard }],guard:=some (5,false) },
 { dst:=some 16,op:=Go.Op.binOp Go.BinOp.neq 4 (Go.Operand.tmp 13) (Go.Operand.tmp 15) 4,type:=4,pos:= "term.go:249",after:=#[{ on:=7,ground:=Go.Ground.data },{ on:=9,ground:=Go.Ground.data },{ on:=5,ground:=Go.Ground.guard }],guard:=some (5,false) },
 { dst:=some 17,op:=Go.Op.pick (Go.Operand.tmp 11) (Go.Operand.const (Go.Value.bool true)) (Go.Operand.tmp 16),type:=4,pos:= "term.go:249",after:=#[{ on:=5,ground:=Go.Ground.data },{ on:=10,ground:=Go.Ground.data }],guard:=none }]
def spn_F (w0:World) (g h:Nat) (p q:Pl) (t u:Tm):Nat→(Nat→Value)→Value→World→(Nat→Prop)→Prop:=fun rix=>match rix with
 | 0=>fun _ v _ _=>v=.pointer (some ⟨g,0,none⟩)
 | 1=>fun _ v _ _=>v=.int .i64 t.kind
 | 2=>fun _ v _ _=>v=.pointer (some ⟨h,0,none⟩)
 | 3=>fun _ v _ _=>v=.int .i64 u.kind
 | 4=>fun _ v _ _=>v=.bool true
 | 5=>fun _ v _ _=>v=.bool true
 | 6=>fun _ v _ _=>v=undef
 | 7=>fun _ v _ _=>v=undef
 | 8=>fun _ v _ _=>v=undef
 | 9=>fun _ v _ _=>v=undef
 | 10=>fun _ v _ _=>v=undef
 | 11=>fun _ v _ _=>v=.bool true
 | _=>fun _ _ _ _=>True
def spn_C:Nat→List Nat:=fun rix=>match rix with
 | _=>[]
theorem spn_nw2:nwB spn_ops.toArray 2=true:=by kernel_rfl
theorem spn_nw3:nwB spn_ops.toArray 3=true:=by kernel_rfl
set_option maxRecDepth 100000 in
set_option maxHeartbeats 8000000 in
theorem spn_obs (w0:World) (g h:Nat) (p q:Pl) (t u:Tm) (hx2:w0.heap[g]?=some (tmO p t)) (hx3:w0.heap[h]?=some (tmO q u)) (hkk:t.kind≠u.kind) (Q:Exit→Act→World→Prop) (a0:Act) (hi2:a0.tmps.getD 2 undef=.pointer (some ⟨g,0,none⟩)) (hi3:a0.tmps.getD 3 undef=.pointer (some ⟨h,0,none⟩)) :
  ObsE Try.prog spn_ops.toArray Q (est2 0 0 (fun _=>False) (fun _=>False)) spn_C (spn_F w0 g h p q t u) a0 w0 spn_ops.toArray.toList 0:=by
 have nw2:=spn_nw2
 have nw3:=spn_nw3
 refine ⟨?_,?_,?_,?_,?_,?_,?_,?_,?_,?_,?_,?_,trivial⟩
 ·refine ⟨⟨fun τ=>stableE_det _,leans_not⟩,?_⟩
  intro a w O hk
  have e2:a.eval (.tmp 2)=.pointer (some ⟨g,0,none⟩):=(hk.init 2 (initialB_of_nw nw2)).trans hi2
  exact obE_run (wanted_none rfl) (by unfold execOp;simp only [];rw [e2];go_simp) rfl
 ·refine ⟨⟨fun τ=>stableE_det _,leans_not⟩,?_⟩
  intro a w O hk
  have e6:a.eval (.tmp 6)=.pointer (some ⟨g,0,none⟩):=hk.fact 0 _ 6 rfl rfl rfl rfl
  have x2:=hk.world.still hx2 (fun ⟨_,h⟩=>h.elim And.right And.right)
  obtain ⟨p0,p1,p2,p3,p4,p5,p6,p7⟩:=row8 x2
  exact obE_run (wanted_none rfl) (by unfold execOp;simp only [];rw [e6];go_simp) rfl
 ·refine ⟨⟨fun τ=>stableE_det _,leans_not⟩,?_⟩
  intro a w O hk
  have e3:a.eval (.tmp 3)=.pointer (some ⟨h,0,none⟩):=(hk.init 3 (initialB_of_nw nw3)).trans hi3
  exact obE_run (wanted_none rfl) (by unfold execOp;simp only [];rw [e3];go_simp) rfl
 ·refine ⟨⟨fun τ=>stableE_det _,leans_not⟩,?_⟩
  intro a w O hk
  have e8:a.eval (.tmp 8)=.pointer (some ⟨h,0,none⟩):=hk.fact 2 _ 8 rfl rfl rfl rfl
  have x3:=hk.world.still hx3 (fun ⟨_,h⟩=>h.elim And.right And.right)
  obtain ⟨p0,p1,p2,p3,p4,p5,p6,p7⟩:=row8 x3
  exact obE_run (wanted_none rfl) (by unfold execOp;simp only [];rw [e8];go_simp) rfl
 ·refine ⟨⟨fun τ=>stableE_det _,leans_not⟩,?_⟩
  intro a w O hk
  have e7:a.eval (.tmp 7)=.int .i64 t.kind:=hk.fact 1 _ 7 rfl rfl rfl rfl
  have e9:a.eval (.tmp 9)=.int .i64 u.kind:=hk.fact 3 _ 9 rfl rfl rfl rfl
  exact toE (ob_neqInt true rfl e7 e9 (by simp [hkk]) (wanted_none rfl) rfl)
 ·refine ⟨⟨fun τ=>stableE_det _,leans_not⟩,?_⟩
  intro a w O hk
  have e10:a.eval (.tmp 10)=.bool true:=hk.fact 4 _ 10 rfl rfl rfl rfl
  exact toE (ob_move rfl e10 (wanted_none rfl) rfl)
 ·refine ⟨⟨fun τ=>stableE_det _,leans_not⟩,?_⟩
  intro a w O hk
  have e2:a.eval (.tmp 2)=.pointer (some ⟨g,0,none⟩):=(hk.init 2 (initialB_of_nw nw2)).trans hi2
  have e11:a.eval (.tmp 11)=.bool true:=hk.fact 5 _ 11 rfl rfl rfl rfl
  exact toE (ob_skip (unwanted_of rfl rfl rfl e11 (by decide)) rfl)
 ·refine ⟨⟨fun τ=>stableE_det _,leans_not⟩,?_⟩
  intro a w O hk
  have e12:a.eval (.tmp 12)=undef:=hk.fact 6 _ 12 rfl rfl rfl rfl
  have e11:a.eval (.tmp 11)=.bool true:=hk.fact 5 _ 11 rfl rfl rfl rfl
  exact toE (ob_skip (unwanted_of rfl rfl rfl e11 (by decide)) rfl)
 ·refine ⟨⟨fun τ=>stableE_det _,leans_not⟩,?_⟩
  intro a w O hk
  have e3:a.eval (.tmp 3)=.pointer (some ⟨h,0,none⟩):=(hk.init 3 (initialB_of_nw nw3)).trans hi3
  have e11:a.eval (.tmp 11)=.bool true:=hk.fact 5 _ 11 rfl rfl rfl rfl
  exact toE (ob_skip (unwanted_of rfl rfl rfl e11 (by decide)) rfl)
 ·refine ⟨⟨fun τ=>stableE_det _,leans_not⟩,?_⟩
  intro a w O hk
  have e14:a.eval (.tmp 14)=undef:=hk.fact 8 _ 14 rfl rfl rfl rfl
  have e11:a.eval (.tmp 11)=.bool true:=hk.fact 5 _ 11 rfl rfl rfl rfl
  exact toE (ob_skip (unwanted_of rfl rfl rfl e11 (by decide)) rfl)
 ·refine ⟨⟨fun τ=>stableE_det _,leans_not⟩,?_⟩
  intro a w O hk
  have e13:a.eval (.tmp 13)=undef:=hk.fact 7 _ 13 rfl rfl rfl rfl
  have e15:a.eval (.tmp 15)=undef:=hk.fact 9 _ 15 rfl rfl rfl rfl
  have e11:a.eval (.tmp 11)=.bool true:=hk.fact 5 _ 11 rfl rfl rfl rfl
  exact toE (ob_skip (unwanted_of rfl rfl rfl e11 (by decide)) rfl)
 ·refine ⟨⟨fun τ=>stableE_det _,leans_not⟩,?_⟩
  intro a w O hk
  have e11:a.eval (.tmp 11)=.bool true:=hk.fact 5 _ 11 rfl rfl rfl rfl
  have e16:a.eval (.tmp 16)=undef:=hk.fact 10 _ 16 rfl rfl rfl rfl
  exact toE (ob_pick rfl e11 rfl (wanted_none rfl) rfl)
set_option maxRecDepth 100000 in
set_option maxHeartbeats 8000000 in
theorem spn_region {Q:Exit→Act→World→Prop} {id:Nat} (w0:World) (g h:Nat) (p q:Pl) (t u:Tm) {s0 s1 s4 s5 s6 s7 s8 s9 s10 s11 s12 s13 s14 s15 s16 s17 s18 s19 s20 s21 s22 s23 s24 s25 s26 s27 s28 s29 s30 s31 s32 s33 s34 s35 s36 s37 s38 s39 s40 s41 s42 s43 s44 s45 s46 s47 s48 s49 s50 s51 s52 s53 s54 s55 s56 s57 s58 s59 s60 s61 s62 s63 s64 s65 s66 s67 s68:Value} (hx2:w0.heap[g]?=some (tmO p t)) (hx3:w0.heap[h]?=some (tmO q u)) (hkk:t.kind≠u.kind)
  (hend:∀ (w':World),Chg (fun k=>False∨False) w0 w'→Q .normal { tmps:=(s0 :: s1 :: (.pointer (some ⟨g,0,none⟩)) :: (.pointer (some ⟨h,0,none⟩)) :: s4 :: s5 :: (.pointer (some ⟨g,0,none⟩)) :: (.int .i64 t.kind) :: (.pointer (some ⟨h,0,none⟩)) :: (.int .i64 u.kind) :: (.bool true) :: (.bool true) :: undef :: undef :: undef :: undef :: undef :: (.bool true) :: s18 :: s19 :: s20 :: s21 :: s22 :: s23 :: s24 :: s25 :: s26 :: s27 :: s28 :: s29 :: s30 :: s31 :: s32 :: s33 :: s34 :: s35 :: s36 :: s37 :: s38 :: s39 :: s40 :: s41 :: s42 :: s43 :: s44 :: s45 :: s46 :: s47 :: s48 :: s49 :: s50 :: s51 :: s52 :: s53 :: s54 :: s55 :: s56 :: s57 :: s58 :: s59 :: s60 :: s61 :: s62 :: s63 :: s64 :: s65 :: s66 :: s67 :: s68 :: []:List Value).toArray,defers:=[] } w') :
  (Code.region id spn_ops.toArray true).wp Try.prog Q { tmps:=(s0 :: s1 :: (.pointer (some ⟨g,0,none⟩)) :: (.pointer (some ⟨h,0,none⟩)) :: s4 :: s5 :: s6 :: s7 :: s8 :: s9 :: s10 :: s11 :: s12 :: s13 :: s14 :: s15 :: s16 :: s17 :: s18 :: s19 :: s20 :: s21 :: s22 :: s23 :: s24 :: s25 :: s26 :: s27 :: s28 :: s29 :: s30 :: s31 :: s32 :: s33 :: s34 :: s35 :: s36 :: s37 :: s38 :: s39 :: s40 :: s41 :: s42 :: s43 :: s44 :: s45 :: s46 :: s47 :: s48 :: s49 :: s50 :: s51 :: s52 :: s53 :: s54 :: s55 :: s56 :: s57 :: s58 :: s59 :: s60 :: s61 :: s62 :: s63 :: s64 :: s65 :: s66 :: s67 :: s68 :: []:List Value).toArray,defers:=[] } w0:=by
 refine wp_region_est (by kernel_rfl) (est2 0 0 (fun _=>False) (fun _=>False)) spn_C (spn_F w0 g h p q t u) (est2_dis (fun _ h _=>h)) (est2_range (fun _ h=>h.elim) (fun _ h=>h.elim)) (by rfl) (by kernel_rfl) (spn_obs w0.drew g h p q t u hx2 hx3 hkk _ _ rfl rfl) ?_
 intro a w' O hd hs hb hf hf2 ha hsame
 have hl:=slots_eq (ops:=spn_ops.toArray) [(6,.pointer (some ⟨g,0,none⟩)),(7,.int .i64 t.kind),(8,.pointer (some ⟨h,0,none⟩)),(9,.int .i64 u.kind),(10,.bool true),(11,.bool true),(12,undef),(13,undef),(14,undef),(15,undef),(16,undef),(17,.bool true)] (show a.tmps.size=69 from hs) (fun i h=>hsame i h) ⟨(hf 0 _ 6 rfl rfl (by decide)).1,(hf 1 _ 7 rfl rfl (by decide)).1,(hf 2 _ 8 rfl rfl (by decide)).1,(hf 3 _ 9 rfl rfl (by decide)).1,(hf 4 _ 10 rfl rfl (by decide)).1,(hf 5 _ 11 rfl rfl (by decide)).1,(hf 6 _ 12 rfl rfl (by decide)).1,(hf 7 _ 13 rfl rfl (by decide)).1,(hf 8 _ 14 rfl rfl (by decide)).1,(hf 9 _ 15 rfl rfl (by decide)).1,(hf 10 _ 16 rfl rfl (by decide)).1,(hf 11 _ 17 rfl rfl (by decide)).1,trivial⟩ (by kernel_rfl)
 obtain ⟨tmps,defers⟩:=a
 obtain rfl:defers=[]:=hd
 have hl':tmps=_:=hl
 rw [hl']
 have hb':=est2_chg hb
 refine Eq.mp ?_ (hend w' ⟨hb'.os,hb'.tape,hb'.output,hb'.size,hb'.block⟩)
 kernel_rfl

def spy_F (w0:World) (g h:Nat) (p q:Pl) (t u:Tm) (la lb nl:Bool):Nat→(Nat→Value)→Value→World→(Nat→Prop)→Prop:=fun rix=>match rix with
 | 0=>fun _ v _ _=>v=.pointer (some ⟨g,0,none⟩)
 | 1=>fun _ v _ _=>v=.int .i64 t.kind
 | 2=>fun _ v _ _=>v=.pointer (some ⟨h,0,none⟩)
 | 3=>fun _ v _ _=>v=.int .i64 u.kind
 | 4=>fun _ v _ _=>v=.bool false
 | 5=>fun _ v _ _=>v=.bool false
 | 6=>fun _ v _ _=>v=tmV p t
 | 7=>fun _ v _ _=>v=.bool la
 | 8=>fun _ v _ _=>v=tmV q u
 | 9=>fun _ v _ _=>v=.bool lb
 | 10=>fun _ v _ _=>v=.bool nl
 | 11=>fun _ v _ _=>v=.bool nl
 | _=>fun _ _ _ _=>True
def spy_C:Nat→List Nat:=fun rix=>match rix with
 | _=>[]
theorem spy_nw2:nwB spn_ops.toArray 2=true:=by kernel_rfl
theorem spy_nw3:nwB spn_ops.toArray 3=true:=by kernel_rfl
set_option maxRecDepth 100000 in
set_option maxHeartbeats 8000000 in
theorem spy_obs (w0:World) (g h:Nat) (p q:Pl) (t u:Tm) (la lb nl:Bool) (hx2:w0.heap[g]?=some (tmO p t)) (hx3:w0.heap[h]?=some (tmO q u)) (hkk:t.kind=u.kind) (hla:leafT t=la) (hlb:leafT u=lb) (hnl:(la != lb)=nl) (Q:Exit→Act→World→Prop) (a0:Act) (hi2:a0.tmps.getD 2 undef=.pointer (some ⟨g,0,none⟩)) (hi3:a0.tmps.getD 3 undef=.pointer (some ⟨h,0,none⟩)) :
  ObsE Try.prog spn_ops.toArray Q (est2 0 0 (fun _=>False) (fun _=>False)) spy_C (spy_F w0 g h p q t u la lb nl) a0 w0 spn_ops.toArray.toList 0:=by
 have nw2:=spy_nw2
 have nw3:=spy_nw3
 refine ⟨?_,?_,?_,?_,?_,?_,?_,?_,?_,?_,?_,?_,trivial⟩
 ·refine ⟨⟨fun τ=>stableE_det _,leans_not⟩,?_⟩
  intro a w O hk
  have e2:a.eval (.tmp 2)=.pointer (some ⟨g,0,none⟩):=(hk.init 2 (initialB_of_nw nw2)).trans hi2
  exact obE_run (wanted_none rfl) (by unfold execOp;simp only [];rw [e2];go_simp) rfl
 ·refine ⟨⟨fun τ=>stableE_det _,leans_not⟩,?_⟩
  intro a w O hk
  have e6:a.eval (.tmp 6)=.pointer (some ⟨g,0,none⟩):=hk.fact 0 _ 6 rfl rfl rfl rfl
  have x2:=hk.world.still hx2 (fun ⟨_,h⟩=>h.elim And.right And.right)
  obtain ⟨p0,p1,p2,p3,p4,p5,p6,p7⟩:=row8 x2
  exact obE_run (wanted_none rfl) (by unfold execOp;simp only [];rw [e6];go_simp) rfl
 ·refine ⟨⟨fun τ=>stableE_det _,leans_not⟩,?_⟩
  intro a w O hk
  have e3:a.eval (.tmp 3)=.pointer (some ⟨h,0,none⟩):=(hk.init 3 (initialB_of_nw nw3)).trans hi3
  exact obE_run (wanted_none rfl) (by unfold execOp;simp only [];rw [e3];go_simp) rfl
 ·refine ⟨⟨fun τ=>stableE_det _,leans_not⟩,?_⟩
  intro a w O hk
  have e8:a.eval (.tmp 8)=.pointer (some ⟨h,0,none⟩):=hk.fact 2 _ 8 rfl rfl rfl rfl
  have x3:=hk.world.still hx3 (fun ⟨_,h⟩=>h.elim And.right And.right)
  obtain ⟨p0,p1,p2,p3,p4,p5,p6,p7⟩:=row8 x3
  exact obE_run (wanted_none rfl) (by unfold execOp;simp only [];rw [e8];go_simp) rfl
 ·refine ⟨⟨fun τ=>stableE_det _,leans_not⟩,?_⟩
  intro a w O hk
  have e7:a.eval (.tmp 7)=.int .i64 t.kind:=hk.fact 1 _ 7 rfl rfl rfl rfl
  have e9:a.eval (.tmp 9)=.int .i64 u.kind:=hk.fact 3 _ 9 rfl rfl rfl rfl
  exact toE (ob_neqInt false rfl e7 e9 (by simp [hkk]) (wanted_none rfl) rfl)
 ·refine ⟨⟨fun τ=>stableE_det _,leans_not⟩,?_⟩
  intro a w O hk
  have e10:a.eval (.tmp 10)=.bool false:=hk.fact 4 _ 10 rfl rfl rfl rfl
  exact toE (ob_move rfl e10 (wanted_none rfl) rfl)
 ·refine ⟨⟨fun τ=>stableE_det _,leans_not⟩,?_⟩
  intro a w O hk
  have e2:a.eval (.tmp 2)=.pointer (some ⟨g,0,none⟩):=(hk.init 2 (initialB_of_nw nw2)).trans hi2
  have e11:a.eval (.tmp 11)=.bool false:=hk.fact 5 _ 11 rfl rfl rfl rfl
  have x2:=hk.world.still hx2 (fun ⟨_,h⟩=>h.elim And.right And.right)
  exact obE_loadRow rfl e2 x2 Try.underlying28 rfl (by kernel_rfl) (wanted_of rfl rfl rfl e11) rfl
 ·refine ⟨⟨fun τ=>stableE_det _,leans_not⟩,?_⟩
  intro a w O hk
  have e12:a.eval (.tmp 12)=tmV p t:=hk.fact 6 _ 12 rfl rfl rfl rfl
  have e11:a.eval (.tmp 11)=.bool false:=hk.fact 5 _ 11 rfl rfl rfl rfl
  exact obE_callV #[tmV p t] rfl rfl rfl rfl (by simp only [List.map_cons,List.map_nil];rw [e12]) (wanted_of rfl rfl rfl e11) ((leaf_calls t p w).mono fun e w' h=>⟨by rw [h.1,hla],h.2⟩)
 ·refine ⟨⟨fun τ=>stableE_det _,leans_not⟩,?_⟩
  intro a w O hk
  have e3:a.eval (.tmp 3)=.pointer (some ⟨h,0,none⟩):=(hk.init 3 (initialB_of_nw nw3)).trans hi3
  have e11:a.eval (.tmp 11)=.bool false:=hk.fact 5 _ 11 rfl rfl rfl rfl
  have x3:=hk.world.still hx3 (fun ⟨_,h⟩=>h.elim And.right And.right)
  exact obE_loadRow rfl e3 x3 Try.underlying28 rfl (by kernel_rfl) (wanted_of rfl rfl rfl e11) rfl
 ·refine ⟨⟨fun τ=>stableE_det _,leans_not⟩,?_⟩
  intro a w O hk
  have e14:a.eval (.tmp 14)=tmV q u:=hk.fact 8 _ 14 rfl rfl rfl rfl
  have e11:a.eval (.tmp 11)=.bool false:=hk.fact 5 _ 11 rfl rfl rfl rfl
  exact obE_callV #[tmV q u] rfl rfl rfl rfl (by simp only [List.map_cons,List.map_nil];rw [e14]) (wanted_of rfl rfl rfl e11) ((leaf_calls u q w).mono fun e w' h=>⟨by rw [h.1,hlb],h.2⟩)
 ·refine ⟨⟨fun τ=>stableE_det _,leans_not⟩,?_⟩
  intro a w O hk
  have e13:a.eval (.tmp 13)=.bool la:=hk.fact 7 _ 13 rfl rfl rfl rfl
  have e15:a.eval (.tmp 15)=.bool lb:=hk.fact 9 _ 15 rfl rfl rfl rfl
  have e11:a.eval (.tmp 11)=.bool false:=hk.fact 5 _ 11 rfl rfl rfl rfl
  exact toE (ob_neB nl rfl e13 e15 Try.underlying4 hnl (wanted_of rfl rfl rfl e11) rfl)
 ·refine ⟨⟨fun τ=>stableE_det _,leans_not⟩,?_⟩
  intro a w O hk
  have e11:a.eval (.tmp 11)=.bool false:=hk.fact 5 _ 11 rfl rfl rfl rfl
  have e16:a.eval (.tmp 16)=.bool nl:=hk.fact 10 _ 16 rfl rfl rfl rfl
  exact toE (ob_pick rfl e11 e16 (wanted_none rfl) rfl)
set_option maxRecDepth 100000 in
set_option maxHeartbeats 8000000 in
theorem spy_region {Q:Exit→Act→World→Prop} {id:Nat} (w0:World) (g h:Nat) (p q:Pl) (t u:Tm) (la lb nl:Bool) {s0 s1 s4 s5 s6 s7 s8 s9 s10 s11 s12 s13 s14 s15 s16 s17 s18 s19 s20 s21 s22 s23 s24 s25 s26 s27 s28 s29 s30 s31 s32 s33 s34 s35 s36 s37 s38 s39 s40 s41 s42 s43 s44 s45 s46 s47 s48 s49 s50 s51 s52 s53 s54 s55 s56 s57 s58 s59 s60 s61 s62 s63 s64 s65 s66 s67 s68:Value} (hx2:w0.heap[g]?=some (tmO p t)) (hx3:w0.heap[h]?=some (tmO q u)) (hkk:t.kind=u.kind) (hla:leafT t=la) (hlb:leafT u=lb) (hnl:(la != lb)=nl)
  (hend:∀ (w':World),Chg (fun k=>False∨False) w0 w'→Q .normal { tmps:=(s0 :: s1 :: (.pointer (some ⟨g,0,none⟩)) :: (.pointer (some ⟨h,0,none⟩)) :: s4 :: s5 :: (.pointer (some ⟨g,0,none⟩)) :: (.int .i64 t.kind) :: (.pointer (some ⟨h,0,none⟩)) :: (.int .i64 u.kind) :: (.bool false) :: (.bool false) :: (tmV p t) :: (.bool la) :: (tmV q u) :: (.bool lb) :: (.bool nl) :: (.bool nl) :: s18 :: s19 :: s20 :: s21 :: s22 :: s23 :: s24 :: s25 :: s26 :: s27 :: s28 :: s29 :: s30 :: s31 :: s32 :: s33 :: s34 :: s35 :: s36 :: s37 :: s38 :: s39 :: s40 :: s41 :: s42 :: s43 :: s44 :: s45 :: s46 :: s47 :: s48 :: s49 :: s50 :: s51 :: s52 :: s53 :: s54 :: s55 :: s56 :: s57 :: s58 :: s59 :: s60 :: s61 :: s62 :: s63 :: s64 :: s65 :: s66 :: s67 :: s68 :: []:List Value).toArray,defers:=[] } w') :
  (Code.region id spn_ops.toArray true).wp Try.prog Q { tmps:=(s0 :: s1 :: (.pointer (some ⟨g,0,none⟩)) :: (.pointer (some ⟨h,0,none⟩)) :: s4 :: s5 :: s6 :: s7 :: s8 :: s9 :: s10 :: s11 :: s12 :: s13 :: s14 :: s15 :: s16 :: s17 :: s18 :: s19 :: s20 :: s21 :: s22 :: s23 :: s24 :: s25 :: s26 :: s27 :: s28 :: s29 :: s30 :: s31 :: s32 :: s33 :: s34 :: s35 :: s36 :: s37 :: s38 :: s39 :: s40 :: s41 :: s42 :: s43 :: s44 :: s45 :: s46 :: s47 :: s48 :: s49 :: s50 :: s51 :: s52 :: s53 :: s54 :: s55 :: s56 :: s57 :: s58 :: s59 :: s60 :: s61 :: s62 :: s63 :: s64 :: s65 :: s66 :: s67 :: s68 :: []:List Value).toArray,defers:=[] } w0:=by
 refine wp_region_est (by kernel_rfl) (est2 0 0 (fun _=>False) (fun _=>False)) spy_C (spy_F w0 g h p q t u la lb nl) (est2_dis (fun _ h _=>h)) (est2_range (fun _ h=>h.elim) (fun _ h=>h.elim)) (by rfl) (by kernel_rfl) (spy_obs w0.drew g h p q t u la lb nl hx2 hx3 hkk hla hlb hnl _ _ rfl rfl) ?_
 intro a w' O hd hs hb hf hf2 ha hsame
 have hl:=slots_eq (ops:=spn_ops.toArray) [(6,.pointer (some ⟨g,0,none⟩)),(7,.int .i64 t.kind),(8,.pointer (some ⟨h,0,none⟩)),(9,.int .i64 u.kind),(10,.bool false),(11,.bool false),(12,tmV p t),(13,.bool la),(14,tmV q u),(15,.bool lb),(16,.bool nl),(17,.bool nl)] (show a.tmps.size=69 from hs) (fun i h=>hsame i h) ⟨(hf 0 _ 6 rfl rfl (by decide)).1,(hf 1 _ 7 rfl rfl (by decide)).1,(hf 2 _ 8 rfl rfl (by decide)).1,(hf 3 _ 9 rfl rfl (by decide)).1,(hf 4 _ 10 rfl rfl (by decide)).1,(hf 5 _ 11 rfl rfl (by decide)).1,(hf 6 _ 12 rfl rfl (by decide)).1,(hf 7 _ 13 rfl rfl (by decide)).1,(hf 8 _ 14 rfl rfl (by decide)).1,(hf 9 _ 15 rfl rfl (by decide)).1,(hf 10 _ 16 rfl rfl (by decide)).1,(hf 11 _ 17 rfl rfl (by decide)).1,trivial⟩ (by kernel_rfl)
 obtain ⟨tmps,defers⟩:=a
 obtain rfl:defers=[]:=hd
 have hl':tmps=_:=hl
 rw [hl']
 have hb':=est2_chg hb
 refine Eq.mp ?_ (hend w' ⟨hb'.os,hb'.tape,hb'.output,hb'.size,hb'.block⟩)
 kernel_rfl

theorem below_undrew {w0 w:World} (h:Below w0.drew.heap.size w0.drew w):Below w0.heap.size w0 w:=Below.trans (below_drew (Below.refl _ _)) h

def spk_ops:List Oper:=[
 { dst:=some 56,op:=Go.Op.fieldAddr 28 (Go.Operand.tmp 2) 5,type:=0,pos:= "term.go:264",after:=#[],guard:=none },
 { dst:=some 57,op:=Go.Op.load 26 (Go.Operand.tmp 56),type:=26,pos:= "term.go:264",after:=#[{ on:=0,ground:=Go.Ground.data }],guard:=none },
 { dst:=some 58,op:=Go.Op.move (Go.Operand.tmp 5),type:=3,pos:= "term.go:264",after:=#[],guard:=none },
 { dst:=some 59,op:=Go.Op.indexAddr 26 (Go.Operand.tmp 57) (Go.Operand.tmp 58),type:=0,pos:= "term.go:264",after:=#[{ on:=1,ground:=Go.Ground.data },{ on:=2,ground:=Go.Ground.data }],guard:=none },
 { dst:=some 60,op:=Go.Op.load 28 (Go.Operand.tmp 59),type:=28,pos:= "term.go:264",after:=#[{ on:=3,ground:=Go.Ground.data }],guard:=none },
 { dst:=some 61,op:=Go.Op.fieldAddr 28 (Go.Operand.tmp 3) 5,type:=0,pos:= "term.go:264",after:=#[],guard:=none },
 { dst:=some 62,op:=Go.Op.load 26 (Go.Operand.tmp 61),type:=26,pos:= "term.go:264",after:=#[{ on:=5,ground:=Go.Ground.data }],guard:=none },
 { dst:=some 63,op:=Go.Op.move (Go.Operand.tmp 5),type:=3,pos:= "term.go:264",after:=#[],guard:=none },
 { dst:=some 64,op:=Go.Op.indexAddr 26 (Go.Operand.tmp 62) (Go.Operand.tmp 63),type:=0,pos:= "term.go:264",after:=#[{ on:=6,ground:=Go.Ground.data },{ on:=7,ground:=Go.Ground.data }],guard:=none },
 { dst:=some 65,op:=Go.Op.load 28 (Go.Operand.tmp 64),type:=28,pos:= "term.go:264",after:=#[{ on:=8,ground:=Go.Ground.data }],guard:=none },
 { dst:=some 66,op:=Go.Op.call { callee:=Go.Callee.value (Go.Operand.func 85),args:=#[Go.Operand.tmp 60,Go.Operand.tmp 65],argTypes:=#[28,28] },type:=4,pos:= "term.go:264",after:=#[{ on:=4,ground:=Go.Ground.data },{ on:=9,ground:=Go.Ground.data }],guard:=none },
 { dst:=some 67,op:=Go.Op.unOp Go.UnOp.not 4 (Go.Operand.tmp 66),type:=4,pos:= "term.go:264",after:=#[{ on:=10,ground:=Go.Ground.data }],guard:=none }]
def spk_F (w0:World) (g h i:Nat) (p q:Pl) (t u:Tm) (ga oa gd od m1 m2:Nat) (qx qy:Pl) (x y:Tm) (r:Bool):Nat→(Nat→Value)→Value→World→(Nat→Prop)→Prop:=fun rix=>match rix with
 | 0=>fun _ v _ _=>v=.pointer (some ⟨g,7,none⟩)
 | 1=>fun _ v _ _=>v=.slice (some ⟨ga,oa,none⟩) m1 p.e
 | 2=>fun _ v _ _=>v=.int .i64 i
 | 3=>fun _ v _ _=>v=.pointer (some ⟨ga,oa+i * 8,none⟩)
 | 4=>fun _ v _ _=>v=tmV qx x
 | 5=>fun _ v _ _=>v=.pointer (some ⟨h,7,none⟩)
 | 6=>fun _ v _ _=>v=.slice (some ⟨gd,od,none⟩) m2 q.e
 | 7=>fun _ v _ _=>v=.int .i64 i
 | 8=>fun _ v _ _=>v=.pointer (some ⟨gd,od+i * 8,none⟩)
 | 9=>fun _ v _ _=>v=tmV qy y
 | 10=>fun _ v _ _=>v=.bool r
 | 11=>fun _ v _ _=>v=.bool (!r)
 | _=>fun _ _ _ _=>True
def spk_C:Nat→List Nat:=fun rix=>match rix with
 | _=>[]
theorem spk_nw2:nwB spk_ops.toArray 2=true:=by kernel_rfl
theorem spk_nw3:nwB spk_ops.toArray 3=true:=by kernel_rfl
theorem spk_nw5:nwB spk_ops.toArray 5=true:=by kernel_rfl
set_option maxRecDepth 100000 in
set_option maxHeartbeats 8000000 in
theorem spk_obs (w0:World) (g h i:Nat) (p q:Pl) (t u:Tm) (ga oa gd od m1 m2:Nat) (qx qy:Pl) (x y:Tm) (r:Bool) (hx2:w0.heap[g]?=some (tmO p t)) (hx3:w0.heap[h]?=some (tmO q u)) (hpK:p.K=some ⟨ga,oa,none⟩) (hqK:q.K=some ⟨gd,od,none⟩) (hm1:t.kids.length=m1) (hm2:u.kids.length=m2) (hga:ga<w0.heap.size) (hgd:gd<w0.heap.size) (him1:i<m1) (him2:i<m2) (hpe:m1≤9223372036854775807) (hqe:m2≤9223372036854775807) (him9:i≤3) (ca0:w0.cell? ⟨ga,oa+i * 8,none⟩=some (.int .i64 x.kind)) (ca1:w0.cell? ⟨ga,oa+i * 8+1,none⟩=some (.int .i64 x.num)) (ca2:w0.cell? ⟨ga,oa+i * 8+2,none⟩=some (.string x.name)) (ca3:w0.cell? ⟨ga,oa+i * 8+3,none⟩=some (.int .i64 x.lv.kind)) (ca4:w0.cell? ⟨ga,oa+i * 8+4,none⟩=some (.int .i64 x.lv.num)) (ca5:w0.cell? ⟨ga,oa+i * 8+5,none⟩=some (.slice qx.A x.lv.kids.length qx.c)) (ca6:w0.cell? ⟨ga,oa+i * 8+6,none⟩=some (.slice qx.B x.ls.length qx.d)) (ca7:w0.cell? ⟨ga,oa+i * 8+7,none⟩=some (.slice qx.K x.kids.length qx.e)) (cb0:w0.cell? ⟨gd,od+i * 8,none⟩=some (.int .i64 y.kind)) (cb1:w0.cell? ⟨gd,od+i * 8+1,none⟩=some (.int .i64 y.num)) (cb2:w0.cell? ⟨gd,od+i * 8+2,none⟩=some (.string y.name)) (cb3:w0.cell? ⟨gd,od+i * 8+3,none⟩=some (.int .i64 y.lv.kind)) (cb4:w0.cell? ⟨gd,od+i * 8+4,none⟩=some (.int .i64 y.lv.num)) (cb5:w0.cell? ⟨gd,od+i * 8+5,none⟩=some (.slice qy.A y.lv.kids.length qy.c)) (cb6:w0.cell? ⟨gd,od+i * 8+6,none⟩=some (.slice qy.B y.ls.length qy.d)) (cb7:w0.cell? ⟨gd,od+i * 8+7,none⟩=some (.slice qy.K y.kids.length qy.e)) (hIH:∀ w,Below w0.heap.size w0 w→Calls Try.prog 85 #[tmV qx x,tmV qy y] w fun e w'=>e=.returned (.bool r)∧Below w.heap.size w w') (Q:Exit→Act→World→Prop) (a0:Act) (hi2:a0.tmps.getD 2 undef=.pointer (some ⟨g,0,none⟩)) (hi3:a0.tmps.getD 3 undef=.pointer (some ⟨h,0,none⟩)) (hi5:a0.tmps.getD 5 undef=.int .i64 i) :
  ObsE Try.prog spk_ops.toArray Q (est2 0 0 (fun _=>False) (fun _=>False)) spk_C (spk_F w0 g h i p q t u ga oa gd od m1 m2 qx qy x y r) a0 w0 spk_ops.toArray.toList 0:=by
 have nw2:=spk_nw2
 have nw3:=spk_nw3
 have nw5:=spk_nw5
 refine ⟨?_,?_,?_,?_,?_,?_,?_,?_,?_,?_,?_,?_,trivial⟩
 ·refine ⟨⟨fun τ=>stableE_det _,leans_not⟩,?_⟩
  intro a w O hk
  have e2:a.eval (.tmp 2)=.pointer (some ⟨g,0,none⟩):=(hk.init 2 (initialB_of_nw nw2)).trans hi2
  have x2:=hk.world.still hx2 (fun ⟨_,h⟩=>h.elim And.right And.right)
  have x3:=hk.world.still hx3 (fun ⟨_,h⟩=>h.elim And.right And.right)
  have hcc:∀ j,w.cell? ⟨ga,j,none⟩=w0.cell? ⟨ga,j,none⟩:=fun j=>cell_same ((hk.world.below (fun k ⟨_,h⟩=>h.elim (fun h=>h.2.elim) fun h=>h.2.elim) (Nat.le_refl _)).block _ hga)
  have hcd:∀ j,w.cell? ⟨gd,j,none⟩=w0.cell? ⟨gd,j,none⟩:=fun j=>cell_same ((hk.world.below (fun k ⟨_,h⟩=>h.elim (fun h=>h.2.elim) fun h=>h.2.elim) (Nat.le_refl _)).block _ hgd)
  exact obE_run (wanted_none rfl) (by unfold execOp;simp only [];rw [e2];go_simp) rfl
 ·refine ⟨⟨fun τ=>stableE_det _,leans_not⟩,?_⟩
  intro a w O hk
  have e56:a.eval (.tmp 56)=.pointer (some ⟨g,7,none⟩):=hk.fact 0 _ 56 rfl rfl rfl rfl
  have x2:=hk.world.still hx2 (fun ⟨_,h⟩=>h.elim And.right And.right)
  have x3:=hk.world.still hx3 (fun ⟨_,h⟩=>h.elim And.right And.right)
  have hcc:∀ j,w.cell? ⟨ga,j,none⟩=w0.cell? ⟨ga,j,none⟩:=fun j=>cell_same ((hk.world.below (fun k ⟨_,h⟩=>h.elim (fun h=>h.2.elim) fun h=>h.2.elim) (Nat.le_refl _)).block _ hga)
  have hcd:∀ j,w.cell? ⟨gd,j,none⟩=w0.cell? ⟨gd,j,none⟩:=fun j=>cell_same ((hk.world.below (fun k ⟨_,h⟩=>h.elim (fun h=>h.2.elim) fun h=>h.2.elim) (Nat.le_refl _)).block _ hgd)
  obtain ⟨p0,p1,p2,p3,p4,p5,p6,p7⟩:=row8 x2
  rw [hpK,hm1] at p7
  exact obE_run (wanted_none rfl) (by unfold execOp;simp only [];rw [e56];go_simp) rfl
 ·refine ⟨⟨fun τ=>stableE_det _,leans_not⟩,?_⟩
  intro a w O hk
  have e5:a.eval (.tmp 5)=.int .i64 i:=(hk.init 5 (initialB_of_nw nw5)).trans hi5
  exact toE (ob_move rfl e5 (wanted_none rfl) rfl)
 ·refine ⟨⟨fun τ=>stableE_det _,leans_not⟩,?_⟩
  intro a w O hk
  have e57:a.eval (.tmp 57)=.slice (some ⟨ga,oa,none⟩) m1 p.e:=hk.fact 1 _ 57 rfl rfl rfl rfl
  have e58:a.eval (.tmp 58)=.int .i64 i:=hk.fact 2 _ 58 rfl rfl rfl rfl
  have x2:=hk.world.still hx2 (fun ⟨_,h⟩=>h.elim And.right And.right)
  have x3:=hk.world.still hx3 (fun ⟨_,h⟩=>h.elim And.right And.right)
  have hcc:∀ j,w.cell? ⟨ga,j,none⟩=w0.cell? ⟨ga,j,none⟩:=fun j=>cell_same ((hk.world.below (fun k ⟨_,h⟩=>h.elim (fun h=>h.2.elim) fun h=>h.2.elim) (Nat.le_refl _)).block _ hga)
  have hcd:∀ j,w.cell? ⟨gd,j,none⟩=w0.cell? ⟨gd,j,none⟩:=fun j=>cell_same ((hk.world.below (fun k ⟨_,h⟩=>h.elim (fun h=>h.2.elim) fun h=>h.2.elim) (Nat.le_refl _)).block _ hgd)
  exact obE_run (wanted_none rfl) (by unfold execOp;simp only [];rw [e57,e58];go_simp) rfl
 ·refine ⟨⟨fun τ=>stableE_det _,leans_not⟩,?_⟩
  intro a w O hk
  have e59:a.eval (.tmp 59)=.pointer (some ⟨ga,oa+i * 8,none⟩):=hk.fact 3 _ 59 rfl rfl rfl rfl
  have x2:=hk.world.still hx2 (fun ⟨_,h⟩=>h.elim And.right And.right)
  have x3:=hk.world.still hx3 (fun ⟨_,h⟩=>h.elim And.right And.right)
  have hcc:∀ j,w.cell? ⟨ga,j,none⟩=w0.cell? ⟨ga,j,none⟩:=fun j=>cell_same ((hk.world.below (fun k ⟨_,h⟩=>h.elim (fun h=>h.2.elim) fun h=>h.2.elim) (Nat.le_refl _)).block _ hga)
  have hcd:∀ j,w.cell? ⟨gd,j,none⟩=w0.cell? ⟨gd,j,none⟩:=fun j=>cell_same ((hk.world.below (fun k ⟨_,h⟩=>h.elim (fun h=>h.2.elim) fun h=>h.2.elim) (Nat.le_refl _)).block _ hgd)
  have r0:=(hcc _).trans ca0
  have r1:=(hcc _).trans ca1
  have r2:=(hcc _).trans ca2
  have r3:=(hcc _).trans ca3
  have r4:=(hcc _).trans ca4
  have r5:=(hcc _).trans ca5
  have r6:=(hcc _).trans ca6
  have r7:=(hcc _).trans ca7
  exact obE_run (wanted_none rfl) (by unfold execOp;simp only [];rw [e59];go_simp;rfl) rfl
 ·refine ⟨⟨fun τ=>stableE_det _,leans_not⟩,?_⟩
  intro a w O hk
  have e3:a.eval (.tmp 3)=.pointer (some ⟨h,0,none⟩):=(hk.init 3 (initialB_of_nw nw3)).trans hi3
  have x2:=hk.world.still hx2 (fun ⟨_,h⟩=>h.elim And.right And.right)
  have x3:=hk.world.still hx3 (fun ⟨_,h⟩=>h.elim And.right And.right)
  have hcc:∀ j,w.cell? ⟨ga,j,none⟩=w0.cell? ⟨ga,j,none⟩:=fun j=>cell_same ((hk.world.below (fun k ⟨_,h⟩=>h.elim (fun h=>h.2.elim) fun h=>h.2.elim) (Nat.le_refl _)).block _ hga)
  have hcd:∀ j,w.cell? ⟨gd,j,none⟩=w0.cell? ⟨gd,j,none⟩:=fun j=>cell_same ((hk.world.below (fun k ⟨_,h⟩=>h.elim (fun h=>h.2.elim) fun h=>h.2.elim) (Nat.le_refl _)).block _ hgd)
  exact obE_run (wanted_none rfl) (by unfold execOp;simp only [];rw [e3];go_simp) rfl
 ·refine ⟨⟨fun τ=>stableE_det _,leans_not⟩,?_⟩
  intro a w O hk
  have e61:a.eval (.tmp 61)=.pointer (some ⟨h,7,none⟩):=hk.fact 5 _ 61 rfl rfl rfl rfl
  have x2:=hk.world.still hx2 (fun ⟨_,h⟩=>h.elim And.right And.right)
  have x3:=hk.world.still hx3 (fun ⟨_,h⟩=>h.elim And.right And.right)
  have hcc:∀ j,w.cell? ⟨ga,j,none⟩=w0.cell? ⟨ga,j,none⟩:=fun j=>cell_same ((hk.world.below (fun k ⟨_,h⟩=>h.elim (fun h=>h.2.elim) fun h=>h.2.elim) (Nat.le_refl _)).block _ hga)
  have hcd:∀ j,w.cell? ⟨gd,j,none⟩=w0.cell? ⟨gd,j,none⟩:=fun j=>cell_same ((hk.world.below (fun k ⟨_,h⟩=>h.elim (fun h=>h.2.elim) fun h=>h.2.elim) (Nat.le_refl _)).block _ hgd)
  obtain ⟨p0,p1,p2,p3,p4,p5,p6,p7⟩:=row8 x3
  rw [hqK,hm2] at p7
  exact obE_run (wanted_none rfl) (by unfold execOp;simp only [];rw [e61];go_simp) rfl
 ·refine ⟨⟨fun τ=>stableE_det _,leans_not⟩,?_⟩
  intro a w O hk
  have e5:a.eval (.tmp 5)=.int .i64 i:=(hk.init 5 (initialB_of_nw nw5)).trans hi5
  exact toE (ob_move rfl e5 (wanted_none rfl) rfl)
 ·refine ⟨⟨fun τ=>stableE_det _,leans_not⟩,?_⟩
  intro a w O hk
  have e62:a.eval (.tmp 62)=.slice (some ⟨gd,od,none⟩) m2 q.e:=hk.fact 6 _ 62 rfl rfl rfl rfl
  have e63:a.eval (.tmp 63)=.int .i64 i:=hk.fact 7 _ 63 rfl rfl rfl rfl
  have x2:=hk.world.still hx2 (fun ⟨_,h⟩=>h.elim And.right And.right)
  have x3:=hk.world.still hx3 (fun ⟨_,h⟩=>h.elim And.right And.right)
  have hcc:∀ j,w.cell? ⟨ga,j,none⟩=w0.cell? ⟨ga,j,none⟩:=fun j=>cell_same ((hk.world.below (fun k ⟨_,h⟩=>h.elim (fun h=>h.2.elim) fun h=>h.2.elim) (Nat.le_refl _)).block _ hga)
  have hcd:∀ j,w.cell? ⟨gd,j,none⟩=w0.cell? ⟨gd,j,none⟩:=fun j=>cell_same ((hk.world.below (fun k ⟨_,h⟩=>h.elim (fun h=>h.2.elim) fun h=>h.2.elim) (Nat.le_refl _)).block _ hgd)
  exact obE_run (wanted_none rfl) (by unfold execOp;simp only [];rw [e62,e63];go_simp) rfl
 ·refine ⟨⟨fun τ=>stableE_det _,leans_not⟩,?_⟩
  intro a w O hk
  have e64:a.eval (.tmp 64)=.pointer (some ⟨gd,od+i * 8,none⟩):=hk.fact 8 _ 64 rfl rfl rfl rfl
  have x2:=hk.world.still hx2 (fun ⟨_,h⟩=>h.elim And.right And.right)
  have x3:=hk.world.still hx3 (fun ⟨_,h⟩=>h.elim And.right And.right)
  have hcc:∀ j,w.cell? ⟨ga,j,none⟩=w0.cell? ⟨ga,j,none⟩:=fun j=>cell_same ((hk.world.below (fun k ⟨_,h⟩=>h.elim (fun h=>h.2.elim) fun h=>h.2.elim) (Nat.le_refl _)).block _ hga)
  have hcd:∀ j,w.cell? ⟨gd,j,none⟩=w0.cell? ⟨gd,j,none⟩:=fun j=>cell_same ((hk.world.below (fun k ⟨_,h⟩=>h.elim (fun h=>h.2.elim) fun h=>h.2.elim) (Nat.le_refl _)).block _ hgd)
  have r0:=(hcd _).trans cb0
  have r1:=(hcd _).trans cb1
  have r2:=(hcd _).trans cb2
  have r3:=(hcd _).trans cb3
  have r4:=(hcd _).trans cb4
  have r5:=(hcd _).trans cb5
  have r6:=(hcd _).trans cb6
  have r7:=(hcd _).trans cb7
  exact obE_run (wanted_none rfl) (by unfold execOp;simp only [];rw [e64];go_simp;rfl) rfl
 ·refine ⟨⟨fun τ=>stableE_det _,leans_not⟩,?_⟩
  intro a w O hk
  have e60:a.eval (.tmp 60)=tmV qx x:=hk.fact 4 _ 60 rfl rfl rfl rfl
  have e65:a.eval (.tmp 65)=tmV qy y:=hk.fact 9 _ 65 rfl rfl rfl rfl
  have x2:=hk.world.still hx2 (fun ⟨_,h⟩=>h.elim And.right And.right)
  have x3:=hk.world.still hx3 (fun ⟨_,h⟩=>h.elim And.right And.right)
  have hcc:∀ j,w.cell? ⟨ga,j,none⟩=w0.cell? ⟨ga,j,none⟩:=fun j=>cell_same ((hk.world.below (fun k ⟨_,h⟩=>h.elim (fun h=>h.2.elim) fun h=>h.2.elim) (Nat.le_refl _)).block _ hga)
  have hcd:∀ j,w.cell? ⟨gd,j,none⟩=w0.cell? ⟨gd,j,none⟩:=fun j=>cell_same ((hk.world.below (fun k ⟨_,h⟩=>h.elim (fun h=>h.2.elim) fun h=>h.2.elim) (Nat.le_refl _)).block _ hgd)
  exact obE_callV #[tmV qx x,tmV qy y] rfl rfl rfl rfl (by simp only [List.map_cons,List.map_nil];rw [e60,e65]) (wanted_none rfl) (hIH w (hk.world.below (fun k ⟨_,h⟩=>h.elim (fun h=>h.2.elim) fun h=>h.2.elim) (Nat.le_refl _)))
 ·refine ⟨⟨fun τ=>stableE_det _,leans_not⟩,?_⟩
  intro a w O hk
  have e66:a.eval (.tmp 66)=.bool r:=hk.fact 10 _ 66 rfl rfl rfl rfl
  have x2:=hk.world.still hx2 (fun ⟨_,h⟩=>h.elim And.right And.right)
  have x3:=hk.world.still hx3 (fun ⟨_,h⟩=>h.elim And.right And.right)
  have hcc:∀ j,w.cell? ⟨ga,j,none⟩=w0.cell? ⟨ga,j,none⟩:=fun j=>cell_same ((hk.world.below (fun k ⟨_,h⟩=>h.elim (fun h=>h.2.elim) fun h=>h.2.elim) (Nat.le_refl _)).block _ hga)
  have hcd:∀ j,w.cell? ⟨gd,j,none⟩=w0.cell? ⟨gd,j,none⟩:=fun j=>cell_same ((hk.world.below (fun k ⟨_,h⟩=>h.elim (fun h=>h.2.elim) fun h=>h.2.elim) (Nat.le_refl _)).block _ hgd)
  exact obE_run (wanted_none rfl) (by unfold execOp;simp only [];rw [e66];go_simp) rfl
set_option maxRecDepth 100000 in
set_option maxHeartbeats 8000000 in
theorem spk_region {Q:Exit→Act→World→Prop} {id:Nat} (w0:World) (g h i:Nat) (p q:Pl) (t u:Tm) (ga oa gd od m1 m2:Nat) (qx qy:Pl) (x y:Tm) (r:Bool) {s0 s1 s4 s6 s7 s8 s9 s10 s11 s12 s13 s14 s15 s16 s17 s18 s19 s20 s21 s22 s23 s24 s25 s26 s27 s28 s29 s30 s31 s32 s33 s34 s35 s36 s37 s38 s39 s40 s41 s42 s43 s44 s45 s46 s47 s48 s49 s50 s51 s52 s53 s54 s55 s56 s57 s58 s59 s60 s61 s62 s63 s64 s65 s66 s67 s68:Value} (hx2:w0.heap[g]?=some (tmO p t)) (hx3:w0.heap[h]?=some (tmO q u)) (hpK:p.K=some ⟨ga,oa,none⟩) (hqK:q.K=some ⟨gd,od,none⟩) (hm1:t.kids.length=m1) (hm2:u.kids.length=m2) (hga:ga<w0.heap.size) (hgd:gd<w0.heap.size) (him1:i<m1) (him2:i<m2) (hpe:m1≤9223372036854775807) (hqe:m2≤9223372036854775807) (him9:i≤3) (ca0:w0.cell? ⟨ga,oa+i * 8,none⟩=some (.int .i64 x.kind)) (ca1:w0.cell? ⟨ga,oa+i * 8+1,none⟩=some (.int .i64 x.num)) (ca2:w0.cell? ⟨ga,oa+i * 8+2,none⟩=some (.string x.name)) (ca3:w0.cell? ⟨ga,oa+i * 8+3,none⟩=some (.int .i64 x.lv.kind)) (ca4:w0.cell? ⟨ga,oa+i * 8+4,none⟩=some (.int .i64 x.lv.num)) (ca5:w0.cell? ⟨ga,oa+i * 8+5,none⟩=some (.slice qx.A x.lv.kids.length qx.c)) (ca6:w0.cell? ⟨ga,oa+i * 8+6,none⟩=some (.slice qx.B x.ls.length qx.d)) (ca7:w0.cell? ⟨ga,oa+i * 8+7,none⟩=some (.slice qx.K x.kids.length qx.e)) (cb0:w0.cell? ⟨gd,od+i * 8,none⟩=some (.int .i64 y.kind)) (cb1:w0.cell? ⟨gd,od+i * 8+1,none⟩=some (.int .i64 y.num)) (cb2:w0.cell? ⟨gd,od+i * 8+2,none⟩=some (.string y.name)) (cb3:w0.cell? ⟨gd,od+i * 8+3,none⟩=some (.int .i64 y.lv.kind)) (cb4:w0.cell? ⟨gd,od+i * 8+4,none⟩=some (.int .i64 y.lv.num)) (cb5:w0.cell? ⟨gd,od+i * 8+5,none⟩=some (.slice qy.A y.lv.kids.length qy.c)) (cb6:w0.cell? ⟨gd,od+i * 8+6,none⟩=some (.slice qy.B y.ls.length qy.d)) (cb7:w0.cell? ⟨gd,od+i * 8+7,none⟩=some (.slice qy.K y.kids.length qy.e)) (hIH:∀ w,Below w0.heap.size w0 w→Calls Try.prog 85 #[tmV qx x,tmV qy y] w fun e w'=>e=.returned (.bool r)∧Below w.heap.size w w')
  (hend:∀ (w':World),Chg (fun k=>False∨False) w0 w'→Q .normal { tmps:=(s0 :: s1 :: (.pointer (some ⟨g,0,none⟩)) :: (.pointer (some ⟨h,0,none⟩)) :: s4 :: (.int .i64 i) :: s6 :: s7 :: s8 :: s9 :: s10 :: s11 :: s12 :: s13 :: s14 :: s15 :: s16 :: s17 :: s18 :: s19 :: s20 :: s21 :: s22 :: s23 :: s24 :: s25 :: s26 :: s27 :: s28 :: s29 :: s30 :: s31 :: s32 :: s33 :: s34 :: s35 :: s36 :: s37 :: s38 :: s39 :: s40 :: s41 :: s42 :: s43 :: s44 :: s45 :: s46 :: s47 :: s48 :: s49 :: s50 :: s51 :: s52 :: s53 :: s54 :: s55 :: (.pointer (some ⟨g,7,none⟩)) :: (.slice (some ⟨ga,oa,none⟩) m1 p.e) :: (.int .i64 i) :: (.pointer (some ⟨ga,oa+i * 8,none⟩)) :: (tmV qx x) :: (.pointer (some ⟨h,7,none⟩)) :: (.slice (some ⟨gd,od,none⟩) m2 q.e) :: (.int .i64 i) :: (.pointer (some ⟨gd,od+i * 8,none⟩)) :: (tmV qy y) :: (.bool r) :: (.bool (!r)) :: s68 :: []:List Value).toArray,defers:=[] } w') :
  (Code.region id spk_ops.toArray true).wp Try.prog Q { tmps:=(s0 :: s1 :: (.pointer (some ⟨g,0,none⟩)) :: (.pointer (some ⟨h,0,none⟩)) :: s4 :: (.int .i64 i) :: s6 :: s7 :: s8 :: s9 :: s10 :: s11 :: s12 :: s13 :: s14 :: s15 :: s16 :: s17 :: s18 :: s19 :: s20 :: s21 :: s22 :: s23 :: s24 :: s25 :: s26 :: s27 :: s28 :: s29 :: s30 :: s31 :: s32 :: s33 :: s34 :: s35 :: s36 :: s37 :: s38 :: s39 :: s40 :: s41 :: s42 :: s43 :: s44 :: s45 :: s46 :: s47 :: s48 :: s49 :: s50 :: s51 :: s52 :: s53 :: s54 :: s55 :: s56 :: s57 :: s58 :: s59 :: s60 :: s61 :: s62 :: s63 :: s64 :: s65 :: s66 :: s67 :: s68 :: []:List Value).toArray,defers:=[] } w0:=by
 refine wp_region_est (by kernel_rfl) (est2 0 0 (fun _=>False) (fun _=>False)) spk_C (spk_F w0 g h i p q t u ga oa gd od m1 m2 qx qy x y r) (est2_dis (fun _ h _=>h)) (est2_range (fun _ h=>h.elim) (fun _ h=>h.elim)) (by rfl) (by kernel_rfl) (spk_obs w0.drew g h i p q t u ga oa gd od m1 m2 qx qy x y r hx2 hx3 hpK hqK hm1 hm2 hga hgd him1 him2 hpe hqe him9 ca0 ca1 ca2 ca3 ca4 ca5 ca6 ca7 cb0 cb1 cb2 cb3 cb4 cb5 cb6 cb7 (fun w h=>hIH w (below_undrew h)) _ _ rfl rfl rfl) ?_
 intro a w' O hd hs hb hf hf2 ha hsame
 have hl:=slots_eq (ops:=spk_ops.toArray) [(56,.pointer (some ⟨g,7,none⟩)),(57,.slice (some ⟨ga,oa,none⟩) m1 p.e),(58,.int .i64 i),(59,.pointer (some ⟨ga,oa+i * 8,none⟩)),(60,tmV qx x),(61,.pointer (some ⟨h,7,none⟩)),(62,.slice (some ⟨gd,od,none⟩) m2 q.e),(63,.int .i64 i),(64,.pointer (some ⟨gd,od+i * 8,none⟩)),(65,tmV qy y),(66,.bool r),(67,.bool (!r))] (show a.tmps.size=69 from hs) (fun i h=>hsame i h) ⟨(hf 0 _ 56 rfl rfl (by decide)).1,(hf 1 _ 57 rfl rfl (by decide)).1,(hf 2 _ 58 rfl rfl (by decide)).1,(hf 3 _ 59 rfl rfl (by decide)).1,(hf 4 _ 60 rfl rfl (by decide)).1,(hf 5 _ 61 rfl rfl (by decide)).1,(hf 6 _ 62 rfl rfl (by decide)).1,(hf 7 _ 63 rfl rfl (by decide)).1,(hf 8 _ 64 rfl rfl (by decide)).1,(hf 9 _ 65 rfl rfl (by decide)).1,(hf 10 _ 66 rfl rfl (by decide)).1,(hf 11 _ 67 rfl rfl (by decide)).1,trivial⟩ (by kernel_rfl)
 obtain ⟨tmps,defers⟩:=a
 obtain rfl:defers=[]:=hd
 have hl':tmps=_:=hl
 rw [hl']
 have hb':=est2_chg hb
 refine Eq.mp ?_ (hend w' ⟨hb'.os,hb'.tape,hb'.output,hb'.size,hb'.block⟩)
 kernel_rfl

end Go.Proofs.Ytdboloabpjmgaaa

namespace Go.Proofs.Ytdboloabpjmgaaa
open Go.RowKit Go.Proofs.YtdboloabpjmgaaaW.PrintWords Go.RegionInvYtdboloabpjmgaaa Go.RegionEYtdboloabpjmgaaa

inductive LvM (M:Nat):Lv→Prop
 | mk {k n:Int} {ks:List Lv} (h:ks.length≤M) (hk:∀ x∈ks,LvM M x):LvM M (.mk k n ks)
theorem LvM.len {M:Nat} {k n:Int} {ks:List Lv} (h:LvM M (.mk k n ks)):ks.length≤M:=by cases h;assumption
theorem LvM.kid {M:Nat} {k n:Int} {ks:List Lv} (h:LvM M (.mk k n ks)):∀ x∈ks,LvM M x:=by cases h;assumption
end Go.Proofs.Ytdboloabpjmgaaa

namespace Go.Proofs.Ytdboloabpjmgaaa
open Go.RowKit Go.Proofs.YtdboloabpjmgaaaW.PrintWords Go.RegionInvYtdboloabpjmgaaa Go.RegionEYtdboloabpjmgaaa

def slB (a b:Lv):Bool:=simB a b || !soundB b
abbrev mostRow:Nat:=8796093022208
def OKL (a _b:Lv):Prop:=LvM mostRow a
end Go.Proofs.Ytdboloabpjmgaaa

namespace Go.Proofs.Ytdboloabpjmgaaa
open Go.RowKit Go.Proofs.YtdboloabpjmgaaaW.PrintWords Go.RegionInvYtdboloabpjmgaaa Go.RegionEYtdboloabpjmgaaa

theorem equal_at (A B:Option Addr) (c c' m m':Nat) (k n k' n':Int) (a b:Lv) (w:World) (hk:a.kind=k) (hn:a.num=n) (hm:a.kids.length=m) (hk':b.kind=k') (hn':b.num=n') (hm':b.kids.length=m') (ha:LvIn w w.heap.size A c a) (hb:LvIn w w.heap.size B c' b) :
  Calls Try.prog 106 #[.agg #[.int .i64 k,.int .i64 n,.slice A m c],.agg #[.int .i64 k',.int .i64 n',.slice B m' c']] w fun e w'=>e=.returned (.bool (eqP a b))∧Below w.heap.size w w':=by
 subst hk hn hm hk' hn' hm'
 exact equal_calls A B c c' a b w ha hb
theorem lvsEq_len:∀ {xs ys:List Lv},xs.length≠ys.length→lvsEq xs ys=false
 | [],[],h=>absurd rfl h
 | [],_ :: _,_=>rfl
 | _ :: _,[],_=>rfl
 | x :: r,y :: s,h=>by
  show (eqP x y && lvsEq r s)=false
  rw [lvsEq_len (xs:=r) (ys:=s) (by simpa using h),Bool.and_false]
theorem lvsEq_cons (x y:Lv) (r s:List Lv):lvsEq (x :: r) (y :: s)=(eqP x y && lvsEq r s):=rfl
theorem drop_lv {ks:List Lv} {i:Nat} {x:Lv} (h:ks[i]?=some x):ks.drop i=x :: ks.drop (i+1):=by
 obtain ⟨hl,rfl⟩:=List.getElem?_eq_some_iff.1 h
 exact List.drop_eq_getElem_cons hl
set_option maxRecDepth 100000 in
set_option maxHeartbeats 4000000 in
theorem eqf_calls (A B:Option Addr) (n m cA cB:Nat) (xs ys:List Lv) (w:World) (hx:LvIn w w.heap.size A cA (.mk 0 0 xs)) (hy:LvIn w w.heap.size B cB (.mk 0 0 ys)) (hn:xs.length=n) (hm:ys.length=m) :
  Calls Try.prog 107 #[.slice A n cA,.slice B m cB,.func (.func 106) #[] #[]] w fun e w'=>e=.returned (.bool (lvsEq xs ys))∧Below w.heap.size w w':=by
 have HX:=Ak hx
 have HY:=Ak hy
 have hlx:=hx.len
 have hly:=hy.len
 simp only [Lv.kids] at hlx hly
 rw [hn] at hlx
 rw [hm] at hly
 have HN:=Ak hn
 have HM:=Ak hm
 clear hx hy hn hm
 go_enter Try.func107,Try.ntmps107
 by_cases hnm:n=m
 ·subst hnm
  have hb:((n:Int) != (n:Int))=false:=by simp
  go_wp2
  go_loopw [17] (fun i wr=>∃ k:Nat,i=.int .i64 k∧k≤n∧Aside0 (lvsEq (xs.drop k) (ys.drop k)=lvsEq xs ys)∧Aside0 (Below w.heap.size w wr)) (fun i _=>n - (intOf i).toNat)
  case atStart=>exact ⟨0,rfl,Nat.zero_le _,⟨rfl⟩,⟨Below.refl _ _⟩⟩
  case round =>
   obtain ⟨k,rfl,hk,HK,HB⟩:=hrel
   by_cases hlt:k<n
   ·obtain ⟨x,hx⟩:∃ x,xs[k]?=some x:=⟨_,List.getElem?_eq_getElem (by rw [HN.out];exact hlt)⟩
    obtain ⟨y,hy⟩:∃ y,ys[k]?=some y:=⟨_,List.getElem?_eq_getElem (by rw [HM.out];exact hlt)⟩
    obtain ⟨A',c',hcs,hin⟩:=(LvIn.stay HX.out HB.out).kid k x hx
    obtain ⟨B',d',hct,hin2⟩:=(LvIn.stay HY.out HB.out).kid k y hy
    obtain ⟨ad,rfl,d1,d2,d3⟩:=hcs.facts
    obtain ⟨bd,rfl,f1,f2,f3⟩:=hct.facts
    have HDX:=Ak (drop_lv hx)
    have HDY:=Ak (drop_lv hy)
    have HXI:=Ak hin.all
    have HYI:=Ak hin2.all
    obtain ⟨xk,hxk⟩:∃ z,x.kind=z:=⟨_,rfl⟩
    obtain ⟨xn,hxn⟩:∃ z,x.num=z:=⟨_,rfl⟩
    obtain ⟨xm,hxm⟩:∃ z,x.kids.length=z:=⟨_,rfl⟩
    obtain ⟨yk,hyk⟩:∃ z,y.kind=z:=⟨_,rfl⟩
    obtain ⟨yn,hyn⟩:∃ z,y.num=z:=⟨_,rfl⟩
    obtain ⟨ym,hym⟩:∃ z,y.kids.length=z:=⟨_,rfl⟩
    rw [hxk] at d1;rw [hxn] at d2;rw [hxm] at d3
    rw [hyk] at f1;rw [hyn] at f2;rw [hym] at f3
    have HQ:=Ak (And.intro hxk (And.intro hxn (And.intro hxm (And.intro hyk (And.intro hyn hym)))))
    have hce:∀ (o:Obj) (p:Addr) (v:Value),wr.cell? p=some v→(wr.alloc o).cell? p=some v:=fun o p v hv=>((below_alloc (Below.refl wr.heap.size wr) o).cell (World.block_lt_of_cell? wr _ hv)).trans hv
    have g1:=hce (.cells #[.int .i64 xk,.int .i64 xn,.slice A' xm c'] 25 (0,0)) _ _ f1
    have g2:=hce (.cells #[.int .i64 xk,.int .i64 xn,.slice A' xm c'] 25 (0,0)) _ _ f2
    have g3:=hce (.cells #[.int .i64 xk,.int .i64 xn,.slice A' xm c'] 25 (0,0)) _ _ f3
    clear hcs hct hin hin2 hx hy hxk hxn hxm hyk hyn hym hce
    go_upto_region 6 with (fail)
    obtain ⟨W1,hW1⟩:∃ W1,W1=wr.alloc (.cells #[.int .i64 xk,.int .i64 xn,.slice A' xm c'] 25 (0,0)):=⟨_,rfl⟩
    rw [← hW1] at g1 g2 g3
    have hb1:Below wr.heap.size wr W1:=by rw [hW1];exact below_alloc (Below.refl _ _) _
    have hx1:W1.heap[wr.heap.size]?=some (.cells #[.int .i64 xk,.int .i64 xn,.slice A' xm c'] 25 (0,0)):=by rw [hW1];exact blk_new _ _
    rw [← hW1]
    clear hW1 d1 d2 d3 f1 f2 f3
    go_upto_region 7 with (fail)
    obtain ⟨W2,hW2⟩:∃ W2,W2=W1.alloc (.cells #[.int .i64 yk,.int .i64 yn,.slice B' ym d'] 25 (0,0)):=⟨_,rfl⟩
    have hb2:Below W1.heap.size W1 W2:=by rw [hW2];exact below_alloc (Below.refl _ _) _
    have hx2:W2.heap[wr.heap.size]?=some (.cells #[.int .i64 xk,.int .i64 xn,.slice A' xm c'] 25 (0,0)):=(hb2.block _ (blk_lt hx1)).trans hx1
    have hy2:W2.heap[W1.heap.size]?=some (.cells #[.int .i64 yk,.int .i64 yn,.slice B' ym d'] 25 (0,0)):=by rw [hW2];exact blk_new _ _
    have HB2:=Ak (below_then HB.out HB.out.size (below_then hb1 hb1.size hb2))
    have HXJ:=Ak ((LvS.later HXI.out (below_then hb1 hb1.size hb2)).all)
    have HYJ:=Ak ((LvS.later HYI.out (below_then hb1 hb1.size hb2)).all)
    obtain ⟨r0,r1,r2,-,-,-⟩:=row3 hx2
    obtain ⟨s0,s1,s2,-,-,-⟩:=row3 hy2
    rw [← hW2]
    clear hW2 hb1 hb2 hx1 hx2 hy2 g1 g2 g3
    have hcall:=HQ.out
    have HCE:=Ak (equal_at A' B' c' d' xm ym xk xn yk yn x y W2 hcall.1 hcall.2.1 hcall.2.2.1 hcall.2.2.2.1 hcall.2.2.2.2.1 hcall.2.2.2.2.2 HXJ.out HYJ.out)
    clear hcall
    cases he:eqP x y with
    | true =>
     have HV:=Ak he
     have HK2:=Ak (show lvsEq (xs.drop (k+1)) (ys.drop (k+1))=lvsEq xs ys by rw [← HK.out,HDX.out,HDY.out,lvsEq_cons,he,Bool.true_and])
     clear he
     go_wp2_with (go_at_call 106;go_must (refine HCE.out.mono ?_;rintro e w3 ⟨rfl,hb⟩;rw [HV.out];have HB3:=Ak (below_then HB2.out HB2.out.size hb);clear hb))
     go_roundw
     case rel=>exact ⟨k+1,by go_num,by omega,HK2,HB3⟩
     case measure=>(simp [intOf];try omega)
    | false =>
     have HV:=Ak he
     have HK2:=Ak (show lvsEq xs ys=false by rw [← HK.out,HDX.out,HDY.out,lvsEq_cons,he,Bool.false_and])
     clear he
     go_wp2_with (go_at_call 106;go_must (refine HCE.out.mono ?_;rintro e w3 ⟨rfl,hb⟩;rw [HV.out];have HB3:=Ak (below_then HB2.out HB2.out.size hb);clear hb))
     go_ret
     rw [HK2.out]
     exact ⟨rfl,HB3.out⟩
   ·obtain rfl:k=n:=by omega
    have hlt':decide ((k:Int)<k)=false:=by simp
    have HZ:=Ak (show lvsEq xs ys=true by rw [← HK.out,List.drop_of_length_le (by rw [HN.out];exact Nat.le_refl _),List.drop_of_length_le (by rw [HM.out];exact Nat.le_refl _)];rfl)
    go_wp2
    go_ret
    rw [HZ.out]
    exact ⟨rfl,HB.out⟩
 ·have hb:((n:Int) != (m:Int))=true:=by simp;omega
  have HF:=Ak (lvsEq_len (xs:=xs) (ys:=ys) (by rw [HN.out,HM.out];exact hnm))
  clear hnm
  go_wp2
  go_ret
  rw [HF.out]
  exact ⟨rfl,Below.refl _ _⟩
theorem kind_leaf {t:Tm} (h:t.kind=1∨t.kind=2∨t.kind=7):nK t=0∧leafR t=false:=by
 have ha:arZ t.kind=0:=if_pos h
 refine ⟨?_,?_⟩
 ·unfold nK;rw [ha];split <;> rfl
 ·unfold leafR;rw [ha];exact decide_eq_false (by omega)
theorem sm_kind {t u:Tm} (h:t.kind≠u.kind):sameT t u=false:=by rw [same_eq];unfold hdB;rw [decide_eq_false h];rfl
theorem leafR_leaf {t:Tm} (h:leafT t=true) (h1:t.kind≠1) (h2:t.kind≠2) (h7:t.kind≠7):leafR t=true:=by
 have h0:=leaf_nK h
 unfold leafR
 unfold nK at h0
 have ha:arZ t.kind≠0:=by
  unfold arZ
  rw [if_neg (by omega)]
  split
  ·omega
  ·split <;> omega
 refine decide_eq_true ?_
 split at h0
 ·exact .inr (by assumption)
 ·exact .inl (by omega)
theorem sm_leaf {t u:Tm} (hk:t.kind=u.kind) (h:leafT t≠leafT u):sameT t u=false:=by
 have key:∀ {a b:Tm},a.kind=b.kind→leafT a=false→leafT b=true→leafR a=false∧leafR b=true:=fun hk ha hb=>by
  obtain ⟨k1,k2,k7⟩:=kind_node ha
  exact ⟨leafR_node ha,leafR_leaf hb (by rw [← hk];exact k1) (by rw [← hk];exact k2) (by rw [← hk];exact k7)⟩
 rw [same_eq]
 unfold hdB
 cases ht:leafT t with
 | true =>
  cases hu:leafT u with
  | true=>rw [ht,hu] at h;exact absurd rfl h
  | false=>obtain ⟨e1,e2⟩:=key hk.symm hu ht;rw [e1,e2];simp
 | false =>
  cases hu:leafT u with
  | true=>obtain ⟨e1,e2⟩:=key hk ht hu;rw [e1,e2];simp
  | false=>rw [ht,hu] at h;exact absurd rfl h
theorem sm_var {t u:Tm} (hk:t.kind=u.kind) (k:t.kind=1):sameT t u=(t.num == u.num):=by
 obtain ⟨h1,h2⟩:=kind_leaf (t:=t) (.inl k)
 obtain ⟨-,h3⟩:=kind_leaf (t:=u) (.inl (by rw [← hk];exact k))
 rw [same_leaf (leafT_of h1)]
 unfold hdB
 rw [decide_eq_true hk,h2,h3,if_pos k]
 rfl
theorem sm_sort {t u:Tm} (hk:t.kind=u.kind) (k:t.kind=2):sameT t u=eqP t.lv u.lv:=by
 obtain ⟨h1,h2⟩:=kind_leaf (t:=t) (.inr (.inl k))
 obtain ⟨-,h3⟩:=kind_leaf (t:=u) (.inr (.inl (by rw [← hk];exact k)))
 rw [same_leaf (leafT_of h1)]
 unfold hdB
 rw [decide_eq_true hk,h2,h3,if_neg (by omega),if_pos k]
 rfl
theorem sm_const {t u:Tm} (hk:t.kind=u.kind) (k:t.kind=7):sameT t u=((t.name.toList == u.name.toList) && lvsEq t.ls u.ls):=by
 obtain ⟨h1,h2⟩:=kind_leaf (t:=t) (.inr (.inr k))
 obtain ⟨-,h3⟩:=kind_leaf (t:=u) (.inr (.inr (by rw [← hk];exact k)))
 rw [same_leaf (leafT_of h1)]
 unfold hdB
 rw [decide_eq_true hk,h2,h3,if_neg (by omega),if_neg (by omega),if_pos k]
 simp
theorem sm_bare {t u:Tm} (hk:t.kind=u.kind) (h1:t.kind≠1) (h2:t.kind≠2) (h7:t.kind≠7) (ht:leafT t=true) (hu:leafT u=true):sameT t u=true:=by
 rw [same_leaf ht]
 unfold hdB
 rw [decide_eq_true hk,leafR_leaf ht h1 h2 h7,leafR_leaf hu (by rw [← hk];exact h1) (by rw [← hk];exact h2) (by rw [← hk];exact h7)]
 rfl
def alls (t u:Tm) (xs:List (Fin (nK t))):Bool:=xs.all fun i=>sameT (kidF t i) (u.kids.getD i.1 default)
theorem sm_node {t u:Tm} (hk:t.kind=u.kind) (ht:leafT t=false) (hu:leafT u=false):sameT t u=alls t u (List.finRange (nK t)):=by
 rw [same_eq,hd_node ht hu hk,Bool.true_and];rfl
theorem alls_cons (t u:Tm) (i:Fin (nK t)) (r:List (Fin (nK t))):alls t u (i :: r)=(sameT (kidF t i) (u.kids.getD i.1 default) && alls t u r):=rfl
theorem nK_same {t u:Tm} (hk:t.kind=u.kind) (ht:leafT t=false) (hu:leafT u=false):nK t=nK u:=by
 have h1:=nK_ar (leaf_nK' ht)
 have h2:=nK_ar (leaf_nK' hu)
 rw [hk] at h1
 omega
theorem below_all {w W:World} {p:Pl} {t:Tm} (h:TmIn w w.heap.size p t) (hb:Below w.heap.size w W):TmIn W W.heap.size p t:=TmS.all (TmIn.stay h hb)
set_option maxRecDepth 100000 in
set_option maxHeartbeats 4000000 in
theorem tsame_calls (N:Nat):∀ (t:Tm),SizeOf.sizeOf t<N→∀ (u:Tm) (p q:Pl) (w:World),TmIn w w.heap.size p t→TmIn w w.heap.size q u →
  Calls Try.prog 85 #[tmV p t,tmV q u] w fun e w'=>e=.returned (.bool (sameT t u))∧Below w.heap.size w w':=by
 induction N with
 | zero=>intro t h;omega
 | succ N ih =>
  intro t hN u p q w hin hin2
  have IH:=Ak ih
  have HNN:=Ak hN
  have HIN:=Ak hin
  have HIN2:=Ak hin2
  have hlt:=hin.len
  have hlu:=hin2.len
  have hlt9:t.kids.length≤9223372036854775807:=by omega
  have hlu9:u.kids.length≤9223372036854775807:=by omega
  have hfl:=hin.ls.len
  have hfu:=hin2.ls.len
  simp only [Lv.kids] at hfl hfu
  obtain ⟨W,hW⟩:∃ W,W=(w.alloc (tmO p t)).alloc (tmO q u):=⟨_,rfl⟩
  have hb:Below w.heap.size w W:=by rw [hW];exact below_alloc (below_alloc (Below.refl _ _) _) _
  have HX:=Ak (show W.heap[w.heap.size]?=some (tmO p t) by rw [hW];exact box0 w _ _)
  have HY:=Ak (show W.heap[w.heap.size+1]?=some (tmO q u) by rw [hW];exact box1 w _ _)
  have HB:=Ak hb
  clear ih hN hin hin2 hb
  unfold tmV
  unfold tmO at hW
  go_enter Try.func85,Try.ntmps85
  go_upto_region 1 with (fail)
  rw [← hW]
  clear hW
  by_cases hkk:t.kind=u.kind
  ·obtain ⟨la,hla⟩:∃ x,leafT t=x:=⟨_,rfl⟩
   obtain ⟨lb,hlb⟩:∃ x,leafT u=x:=⟨_,rfl⟩
   by_cases hll:la=lb
   ·refine spy_region W w.heap.size (w.heap.size+1) p q t u la lb false HX.out HY.out hkk hla hlb (by simp [hll]) ?_
    intro w1 hch
    have hb1:Below W.heap.size W w1:=hch.below (fun _ h=>h.elim False.elim False.elim) (Nat.le_refl _)
    have HB1:=Ak (below_then HB.out HB.out.size hb1)
    have HX1:=Ak ((hb1.block _ (blk_lt HX.out)).trans HX.out)
    have HY1:=Ak ((hb1.block _ (blk_lt HY.out)).trans HY.out)
    have HKK:=Ak hkk
    have HLA:=Ak hla
    have HLB:=Ak hlb
    clear hch hb1 hkk hla hlb HX HY
    subst hll
    obtain ⟨p0,p1,p2,p3,p4,p5,p6,p7⟩:=row8 HX1.out
    obtain ⟨q0,q1,q2,q3,q4,q5,q6,q7⟩:=row8 HY1.out
    by_cases k1:t.kind=1
    ·have b1:(t.kind == 1)=true:=by simp [k1]
     have HE:=Ak (sm_var HKK.out k1)
     clear k1
     go_wp2
     go_ret
     rw [HE.out]
     exact ⟨rfl,HB1.out⟩
    ·have b1:(t.kind == 1)=false:=by simp [k1]
     by_cases k2:t.kind=2
     ·have b2:(t.kind == 2)=true:=by simp [k2]
      have HE:=Ak (sm_sort HKK.out k2)
      clear k1 k2
      go_wp2_with (go_at_call 106;go_must (refine (equal_at p.A q.A p.c q.c _ _ _ _ _ _ t.lv u.lv w1 rfl rfl rfl rfl rfl rfl (below_all HIN.out HB1.out).lv.all (below_all HIN2.out HB1.out).lv.all).mono ?_;rintro e w2 ⟨rfl,hb⟩;have HB2:=Ak (below_then HB1.out HB1.out.size hb);clear hb))
      go_ret
      rw [HE.out]
      exact ⟨rfl,HB2.out⟩
     ·have b2:(t.kind == 2)=false:=by simp [k2]
      by_cases k7:t.kind=7
      ·have b7:(t.kind == 7)=true:=by simp [k7]
       have HE:=Ak (sm_const HKK.out k7)
       clear k1 k2 k7
       cases hn:(t.name.toList == u.name.toList) with
       | true =>
        have HE2:=Ak (show sameT t u=lvsEq t.ls u.ls by rw [HE.out,hn,Bool.true_and])
        go_wp2_with (go_at_call 107;go_must (refine (eqf_calls p.B q.B _ _ p.d q.d t.ls u.ls w1 (below_all HIN.out HB1.out).ls.all (below_all HIN2.out HB1.out).ls.all rfl rfl).mono ?_;rintro e w2 ⟨rfl,hb⟩;have HB2:=Ak (below_then HB1.out HB1.out.size hb);clear hb))
        go_ret
        rw [HE2.out]
        exact ⟨rfl,HB2.out⟩
       | false =>
        have HE2:=Ak (show sameT t u=false by rw [HE.out,hn,Bool.false_and])
        go_wp2
        go_ret
        rw [HE2.out]
        exact ⟨rfl,HB1.out⟩
      ·have b7:(t.kind == 7)=false:=by simp [k7]
       have HKN:=Ak (And.intro k1 (And.intro k2 k7))
       clear k1 k2 k7
       cases la with
       | true =>
        have HE:=Ak (sm_bare HKK.out HKN.out.1 HKN.out.2.1 HKN.out.2.2 HLA.out HLB.out)
        go_wp2_with (first
         | (refine wpList_load_row rfl 28 _ rfl (w.heap.size) rfl 28 _ (0,0) _ HX1.out Try.underlying28 rfl (by kernel_rfl) ?_)
         | (go_at_call 75;go_must (refine (leaf_calls t p w1).mono ?_;rintro e w2 ⟨rfl,hb⟩;rw [HLA.out];have HB2:=Ak (below_then HB1.out HB1.out.size hb);clear hb)))
        go_ret
        rw [HE.out]
        exact ⟨rfl,HB2.out⟩
       | false =>
        have HE:=Ak (sm_node HKK.out HLA.out HLB.out)
        go_upto_region 12 with (first
         | (refine wpList_load_row rfl 28 _ rfl (w.heap.size) rfl 28 _ (0,0) _ HX1.out Try.underlying28 rfl (by kernel_rfl) ?_)
         | (go_at_call 75;go_must (refine (leaf_calls t p w1).mono ?_;rintro e w2 ⟨rfl,hb⟩;rw [HLA.out];have HB2:=Ak (below_then HB1.out HB1.out.size hb);have HX2:=Ak ((hb.block _ (blk_lt HX1.out)).trans HX1.out);have HY2:=Ak ((hb.block _ (blk_lt HY1.out)).trans HY1.out);have c0:=(row8 HX2.out).1;clear hb)))
        obtain ⟨ar,har⟩:∃ x,nK t=x:=⟨_,rfl⟩
        have HAR:=Ak har
        have hnk:=nK_ar (leaf_nK' HLA.out)
        have HAC:=Ak (show ∀ w,Calls Try.prog 104 #[.int .i64 t.kind] w fun e w'=>e=.returned (.int .i64 (ar:Int))∧w'=w from fun w=>by rw [← har,hnk];exact tar_calls _ _)
        have har3:ar≤3:=by rw [← har];exact nK_le3 t
        have hart:ar≤t.kids.length:=by rw [← har];exact nK_le t
        have haru:ar≤u.kids.length:=by rw [← har,nK_same HKK.out HLA.out HLB.out];exact nK_le u
        clear har hnk p0 p1 p2 p3 p4 p5 p6 p7 q0 q1 q2 q3 q4 q5 q6 q7
        go_wp2_with (go_at_call 104;go_must (refine (HAC.out _).mono ?_;rintro e w3 ⟨rfl,h3⟩;have h3:=h3.symm;subst h3))
        clear c0
        go_loopw [53] (fun i wr=>∃ k:Nat,i=.int .i64 k∧k≤ar∧Aside0 (alls t u ((List.finRange (nK t)).drop k)=sameT t u)∧Aside0 (Below w2.heap.size w2 wr)) (fun i _=>ar - (intOf i).toNat)
        case atStart=>exact ⟨0,rfl,Nat.zero_le _,⟨by rw [List.drop_zero];exact HE.out.symm⟩,⟨Below.refl _ _⟩⟩
        case round =>
         obtain ⟨k,rfl,hk,HK,HBR⟩:=hrel
         by_cases hlk:k<ar
         ·have hkn:k<nK t:=by rw [HAR.out];exact hlk
          have hkm:k<nK u:=by rw [← nK_same HKK.out HLA.out HLB.out];exact hkn
          have HDF:=Ak (drop_fin hkn)
          have HBA:=Ak (below_then HB2.out HB2.out.size HBR.out)
          obtain ⟨qq,hqq⟩:=(TmIn.stay HIN.out HBA.out).kid
          obtain ⟨qr,hqr⟩:=(TmIn.stay HIN2.out HBA.out).kid
          obtain ⟨⟨ga,oa,hpK,hga,hca⟩,hxin⟩:=hqq k _ (kidF_get t ⟨k,hkn⟩)
          obtain ⟨⟨gd,od,hqK,hgd,hcb⟩,hyin⟩:=hqr k _ (kidF_get u ⟨k,hkm⟩)
          have HGD:=Ak (show u.kids.getD k default=kidF u ⟨k,hkm⟩ by rw [List.getD_eq_getElem?_getD,kidF_get u ⟨k,hkm⟩];rfl)
          have HAL:=Ak (alls_cons t u ⟨k,hkn⟩ ((List.finRange (nK t)).drop (k+1)))
          have HXL:=Ak (kidF_lt t ⟨k,hkn⟩)
          obtain ⟨x,hxe⟩:∃ x,kidF t ⟨k,hkn⟩=x:=⟨_,rfl⟩
          obtain ⟨y,hye⟩:∃ y,kidF u ⟨k,hkm⟩=y:=⟨_,rfl⟩
          rw [hxe] at hca hxin HAL HXL
          rw [hye] at hcb hyin HGD
          rw [HGD.out] at HAL
          have HXI:=Ak (TmS.all hxin)
          have HYI:=Ak (TmS.all hyin)
          have HXR:=Ak ((HBR.out.block _ (blk_lt HX2.out)).trans HX2.out)
          have HYR:=Ak ((HBR.out.block _ (blk_lt HY2.out)).trans HY2.out)
          obtain ⟨r,hr⟩:∃ r,sameT x y=r:=⟨_,rfl⟩
          have HR:=Ak hr
          have hzr:=HBA.out.size
          have ca:=fun (j:Nat) (v:Value) (h:(tmC (qq k) x)[j]?=some v)=>hca j v h
          have cb:=fun (j:Nat) (v:Value) (h:(tmC (qr k) y)[j]?=some v)=>hcb j v h
          go_upto_region 15 with (fail)
          refine spk_region wr w.heap.size (w.heap.size+1) k p q t u ga oa gd od t.kids.length u.kids.length (qq k) (qr k) x y r HXR.out HYR.out hpK hqK rfl rfl (by omega) (by omega) (by omega) (by omega) hlt9 hlu9 (by omega)
           (ca 0 _ rfl) (ca 1 _ rfl) (ca 2 _ rfl) (ca 3 _ rfl) (ca 4 _ rfl) (ca 5 _ rfl) (ca 6 _ rfl) (ca 7 _ rfl) (cb 0 _ rfl) (cb 1 _ rfl) (cb 2 _ rfl) (cb 3 _ rfl) (cb 4 _ rfl) (cb 5 _ rfl) (cb 6 _ rfl) (cb 7 _ rfl)
           (fun w9 hb9=>by rw [← hr];exact IH.out x (by have:=HXL.out;have:=HNN.out;omega) y (qq k) (qr k) w9 (below_all HXI.out hb9) (below_all HYI.out hb9)) ?_
          intro w5 hch
          have HB5:=Ak (below_then HBR.out HBR.out.size (hch.below (fun _ h=>h.elim False.elim False.elim) (Nat.le_refl _)))
          clear hch hca hcb hxin hyin hpK hqK hga hgd hqq hqr hxe hye ca cb hr
          cases r with
          | true =>
           have HK2:=Ak (show alls t u ((List.finRange (nK t)).drop (k+1))=sameT t u by rw [← HK.out,HDF.out,HAL.out,HR.out,Bool.true_and])
           go_wp2
           go_roundw
           case rel=>exact ⟨k+1,by go_num,by omega,HK2,HB5⟩
           case measure=>(simp [intOf];try omega)
          | false =>
           have HK2:=Ak (show sameT t u=false by rw [← HK.out,HDF.out,HAL.out,HR.out,Bool.false_and])
           have HFN:=Ak (below_then HB2.out HB2.out.size HB5.out)
           go_wp2
           go_ret
           rw [HK2.out]
           exact ⟨rfl,HFN.out⟩
         ·obtain rfl:k=ar:=by omega
          have hlt':decide ((k:Int)<k)=false:=by simp
          have HZ:=Ak (show sameT t u=true by rw [← HK.out,List.drop_of_length_le (by rw [List.length_finRange,HAR.out];exact Nat.le_refl _)];rfl)
          have HFN:=Ak (below_then HB2.out HB2.out.size HBR.out)
          go_wp2
          go_ret
          rw [HZ.out]
          exact ⟨rfl,HFN.out⟩
   ·refine spy_region W w.heap.size (w.heap.size+1) p q t u la lb true HX.out HY.out hkk hla hlb (by simp [hll]) ?_
    intro w1 hch
    have hb1:Below W.heap.size W w1:=hch.below (fun _ h=>h.elim False.elim False.elim) (Nat.le_refl _)
    have HB1:=Ak (below_then HB.out HB.out.size hb1)
    have HX1:=Ak ((hb1.block _ (blk_lt HX.out)).trans HX.out)
    have HY1:=Ak ((hb1.block _ (blk_lt HY.out)).trans HY.out)
    have HKK:=Ak hkk
    have HLA:=Ak hla
    have HLB:=Ak hlb
    clear hch hb1 hkk hla hlb HX HY
    have HE:=Ak (sm_leaf HKK.out (by rw [HLA.out,HLB.out];exact hll))
    clear hll
    go_wp2
    go_ret
    rw [HE.out]
    exact ⟨rfl,HB1.out⟩
  ·refine spn_region W w.heap.size (w.heap.size+1) p q t u HX.out HY.out hkk ?_
   intro w1 hch
   have HB1:=Ak (below_then HB.out HB.out.size (hch.below (fun _ h=>h.elim False.elim False.elim) (Nat.le_refl _)))
   have HE:=Ak (sm_kind hkk)
   clear hch hkk
   go_wp2
   go_ret
   rw [HE.out]
   exact ⟨rfl,HB1.out⟩
set_option maxRecDepth 100000 in
set_option maxHeartbeats 4000000 in
theorem tSame_calls (t u:Tm) (p q:Pl) (w:World) (hin:TmIn w w.heap.size p t) (hin2:TmIn w w.heap.size q u) :
  Calls Try.prog 48 #[tmV p t,tmV q u] w fun e w'=>e=.returned (.bool (SameT t u))∧Below w.heap.size w w':=by
 have HIN:=Ak hin
 have HIN2:=Ak hin2
 obtain ⟨W,hW⟩:∃ W,W=(w.alloc (tmO p t)).alloc (tmO q u):=⟨_,rfl⟩
 have hb:Below w.heap.size w W:=by rw [hW];exact below_alloc (below_alloc (Below.refl _ _) _) _
 have HX:=Ak (show W.heap[w.heap.size]?=some (tmO p t) by rw [hW];exact box0 w _ _)
 have HY:=Ak (show W.heap[w.heap.size+1]?=some (tmO q u) by rw [hW];exact box1 w _ _)
 have HB:=Ak hb
 clear hin hin2 hb
 unfold tmV
 unfold tmO at hW
 go_enter Try.func48,Try.ntmps48
 go_upto_region 1 with (fail)
 rw [← hW]
 clear hW
 by_cases h1:okT t
 ·have HG1:=Ak (show greatB t=false by rw [great_eq];simp [h1])
  by_cases h2:okT u
  ·have HG2:=Ak (show greatB u=false by rw [great_eq];simp [h2])
   have HE:=Ak (show SameT t u=sameT t u by unfold SameT;rw [decide_eq_true h1,decide_eq_true h2];rfl)
   clear h1 h2
   go_wp2_with (first
    | (refine wpList_load_row rfl 28 _ rfl (w.heap.size) rfl 28 _ (0,0) _ HX.out Try.underlying28 rfl (by kernel_rfl) ?_)
    | (go_at_call 85;go_must (refine (tsame_calls _ t (Nat.lt_succ_self _) u p q w2 (below_all HIN.out HB2.out) (below_all HIN2.out HB2.out)).mono ?_;rintro e w3 ⟨rfl,hb⟩;have HB3:=Ak (below_then HB2.out HB2.out.size hb);clear hb))
    | (have hgd:=HB1;clear hgd;go_at_call 55;go_must (refine (great_calls u q w1 (below_all HIN2.out HB1.out)).mono ?_;rintro e w2 ⟨rfl,hb⟩;rw [HG2.out];have HB2:=Ak (below_then HB1.out HB1.out.size hb);have HX2:=Ak ((hb.block _ (blk_lt HX1.out)).trans HX1.out);have HY2:=Ak ((hb.block _ (blk_lt HY1.out)).trans HY1.out);obtain ⟨a0,a1,a2,a3,a4,a5,a6,a7⟩:=row8 HX2.out;obtain ⟨z0,z1,z2,z3,z4,z5,z6,z7⟩:=row8 HY2.out;clear hb))
    | (go_at_call 55;go_must (refine (great_calls t p W (below_all HIN.out HB.out)).mono ?_;rintro e w1 ⟨rfl,hb⟩;rw [HG1.out];have HB1:=Ak (below_then HB.out HB.out.size hb);have HX1:=Ak ((hb.block _ (blk_lt HX.out)).trans HX.out);have HY1:=Ak ((hb.block _ (blk_lt HY.out)).trans HY.out);obtain ⟨y0,y1,y2,y3,y4,y5,y6,y7⟩:=row8 HY1.out;clear hb)))
   go_ret
   rw [HE.out]
   exact ⟨rfl,HB3.out⟩
  ·have HG2:=Ak (show greatB u=true by rw [great_eq];simp [h2])
   have HE:=Ak (show SameT t u=false by unfold SameT;rw [decide_eq_true h1,decide_eq_false h2];rfl)
   clear h1 h2
   go_wp2_with (first
    | (refine wpList_load_row rfl 28 _ rfl (w.heap.size) rfl 28 _ (0,0) _ HX.out Try.underlying28 rfl (by kernel_rfl) ?_)
    | (have hgd:=HB1;clear hgd;go_at_call 55;go_must (refine (great_calls u q w1 (below_all HIN2.out HB1.out)).mono ?_;rintro e w2 ⟨rfl,hb⟩;rw [HG2.out];have HB2:=Ak (below_then HB1.out HB1.out.size hb);have HX2:=Ak ((hb.block _ (blk_lt HX1.out)).trans HX1.out);have HY2:=Ak ((hb.block _ (blk_lt HY1.out)).trans HY1.out);obtain ⟨a0,a1,a2,a3,a4,a5,a6,a7⟩:=row8 HX2.out;obtain ⟨z0,z1,z2,z3,z4,z5,z6,z7⟩:=row8 HY2.out;clear hb))
    | (go_at_call 55;go_must (refine (great_calls t p W (below_all HIN.out HB.out)).mono ?_;rintro e w1 ⟨rfl,hb⟩;rw [HG1.out];have HB1:=Ak (below_then HB.out HB.out.size hb);have HX1:=Ak ((hb.block _ (blk_lt HX.out)).trans HX.out);have HY1:=Ak ((hb.block _ (blk_lt HY.out)).trans HY.out);obtain ⟨y0,y1,y2,y3,y4,y5,y6,y7⟩:=row8 HY1.out;clear hb)))
   go_ret
   rw [HE.out]
   exact ⟨rfl,HB2.out⟩
 ·have HG1:=Ak (show greatB t=true by rw [great_eq];simp [h1])
  have HE:=Ak (show SameT t u=false by unfold SameT;rw [decide_eq_false h1];rfl)
  clear h1
  go_wp2_with (first
   | (refine wpList_load_row rfl 28 _ rfl (w.heap.size) rfl 28 _ (0,0) _ HX.out Try.underlying28 rfl (by kernel_rfl) ?_)
   | (go_at_call 55;go_must (refine (great_calls t p W (below_all HIN.out HB.out)).mono ?_;rintro e w1 ⟨rfl,hb⟩;rw [HG1.out];have HB1:=Ak (below_then HB.out HB.out.size hb);have HX1:=Ak ((hb.block _ (blk_lt HX.out)).trans HX.out);have HY1:=Ak ((hb.block _ (blk_lt HY.out)).trans HY.out);obtain ⟨y0,y1,y2,y3,y4,y5,y6,y7⟩:=row8 HY1.out;clear hb)))
  go_ret
  rw [HE.out]
  exact ⟨rfl,HB1.out⟩
end Go.Proofs.Ytdboloabpjmgaaa

namespace Go.Proofs.Ytdboloabpjmgaaa
open Go.RowKit Go.Proofs.YtdboloabpjmgaaaW.PrintWords Go.RegionInvYtdboloabpjmgaaa Go.RegionEYtdboloabpjmgaaa

def lvsSl:List Lv→List Lv→Bool
 | [],[]=>true
 | x :: r,y :: s=>slB x y && lvsSl r s
 | _,_=>false
def hnB (a b:Tm):Bool:=decide (a.kind=b.kind) && (leafR a == leafR b) && (leafR a || (if a.kind=1 then decide (a.num=b.num) else if a.kind=2 then slB a.lv b.lv else if a.kind=7 then (a.name.toList == b.name.toList) && lvsSl a.ls b.ls else true))
def nearT (a b:Tm):Bool:=hnB a b && (List.finRange (nK a)).all fun i=>nearT (kidF a i) (b.kids.getD i.1 default)
termination_by SizeOf.sizeOf a
decreasing_by exact kidF_lt a i
inductive CmpOk:Tm→Tm→Prop
 | mk {t u:Tm} (hl:t.kind=2→OKL t.lv u.lv) (hs:t.kind=7→∀ (i:Nat) (x y:Lv),t.ls[i]?=some x→u.ls[i]?=some y→OKL x y) (hk:∀ i:Fin (nK t),CmpOk (kidF t i) (u.kids.getD i.1 default)):CmpOk t u
theorem CmpOk.lv {t u:Tm} (h:CmpOk t u):t.kind=2→OKL t.lv u.lv:=by cases h;assumption
theorem CmpOk.ls {t u:Tm} (h:CmpOk t u):t.kind=7→∀ (i:Nat) (x y:Lv),t.ls[i]?=some x→u.ls[i]?=some y→OKL x y:=by cases h;assumption
theorem CmpOk.kid {t u:Tm} (h:CmpOk t u):∀ i:Fin (nK t),CmpOk (kidF t i) (u.kids.getD i.1 default):=by cases h;assumption
theorem near_eq (a b:Tm):nearT a b=(hnB a b && (List.finRange (nK a)).all fun i=>nearT (kidF a i) (b.kids.getD i.1 default)):=by rw [nearT]
theorem near_leaf {a b:Tm} (h:leafT a=true):nearT a b=hnB a b:=by
 rw [near_eq,fin_none (leaf_nK h)]
 simp
theorem hn_node {a b:Tm} (ha:leafT a=false) (hb:leafT b=false) (hk:a.kind=b.kind):hnB a b=true:=by
 unfold hnB
 obtain ⟨k1,k2,k7⟩:=kind_node ha
 rw [leafR_node ha,leafR_node hb,if_neg k1,if_neg k2,if_neg k7,decide_eq_true hk]
 rfl
end Go.Proofs.Ytdboloabpjmgaaa

namespace Go.Proofs.Ytdboloabpjmgaaa
open Go.RowKit Go.Proofs.YtdboloabpjmgaaaW.PrintWords Go.RegionInvYtdboloabpjmgaaa

def StrAt (w:World) (g:Nat) (s:ByteArray):Prop:=w.heap[g]?=some (.cells #[.string s] 9 (0,0))
theorem StrAt.cell {w:World} {g:Nat} {s:ByteArray} (h:StrAt w g s):w.cell? ⟨g,0,none⟩=some (.string s):=by rw [cell_of_row _ _ _ _ _ _ h];rfl
end Go.Proofs.Ytdboloabpjmgaaa

namespace Go.Proofs.Ytdboloabpjmgaaa
open Go.RowKit Go.Proofs.YtdboloabpjmgaaaW.PrintWords Go.RegionInvYtdboloabpjmgaaa Go.RegionEYtdboloabpjmgaaa

def EnAt (w:World) (A:Option Addr) (xs:List (Tm × Int)):Prop:=∀ (i:Nat) (x:Tm × Int),xs[i]?=some x→∃ g o q,A=some ⟨g,o,none⟩∧g<w.heap.size∧TmIn w w.heap.size q x.1∧∀ (j:Nat) (v:Value),(enC q x)[j]?=some v→w.cell? ⟨g,o+i * 9+j,none⟩=some v
theorem EnAt.later {w w':World} {A:Option Addr} {xs:List (Tm × Int)} (h:EnAt w A xs) (hb:Below w.heap.size w w'):EnAt w' A xs:=fun i x hx=>by
 obtain ⟨g,o,q,hA,hg,hi,hc⟩:=h i x hx
 exact ⟨g,o,q,hA,Nat.lt_of_lt_of_le hg hb.size,(TmS.later hi hb).all,fun j v hv=>(cell_same (hb.block g hg)).trans (hc j v hv)⟩
theorem KidsE.at {w:World} {S:Nat→Prop} {lo:Nat} {V:Value} {xs:List (Tm × Int)} (h:KidsE w S lo V xs):∃ A c,V=.slice A xs.length c∧xs.length≤c∧c≤9223372036854775807∧EnAt w A xs:=by
 obtain ⟨cells,q,ho,hk⟩:=h
 obtain ⟨A,c,rfl⟩:=own_slice ho
 refine ⟨A,c,rfl,own_cap ho,own_max ho,fun i x hx=>?_⟩
 have hi:i<xs.length:=by
  rcases Nat.lt_or_ge i xs.length with h | h
  ·exact h
  ·rw [List.getElem?_eq_none h] at hx;cases hx
 obtain ⟨g,cap,hv,hb,hlt⟩:=ho.form (by omega)
 have hv':=hv
 injection hv with hA
 refine ⟨g,0,q i,hA,hlt,(hk i x hx).2.all,fun j v hjv=>?_⟩
 have:=ho.cells (g:=g) (by rw [hv'];rfl) _ _ ((hk i x hx).1 j v hjv)
 rwa [add_flat,← Nat.add_assoc] at this
end Go.Proofs.Ytdboloabpjmgaaa

namespace Go.Proofs.Ytdboloabpjmgaaa
open Go.RowKit Go.Proofs.YtdboloabpjmgaaaW.PrintWords Go.RegionInvYtdboloabpjmgaaa Go.RegionEYtdboloabpjmgaaa

theorem zeroT_flat (w:World) (S:Nat→Prop):TmS w S plz zeroT:=TmS.flat (LvS.leaf _ _ _ _) (LvS.leaf _ _ _ _) _ _ _ ⟨by decide,by decide,by simp⟩
end Go.Proofs.Ytdboloabpjmgaaa

namespace Go.Proofs.Ytdboloabpjmgaaa
open Go.RowKit Go.Proofs.YtdboloabpjmgaaaW.PrintWords Go.RegionInvYtdboloabpjmgaaa Go.ChangeShapes Go.WideShapes Go.Deep

instance:Inhabited Lv:=⟨.mk 0 0 []⟩
set_option maxRecDepth 100000 in
theorem lv_open {H:Type} {enc:TypeId × Value→H} {W:World} {base:Nat} {sp:Nat→Bool} {held:Bool} (F:Nat):∀ (fuel:Nat),fuel≤F→∀ (cs:List Value) (x:DataW H × List MemPlace),
  DataW.trod enc Try.prog W base sp held fuel 25 cs=some x→∃ (l:Lv) (A:Option Addr) (c:Nat),cs=[.int .i64 l.kind,.int .i64 l.num,.slice A l.kids.length c]∧LvS W (fun _=>True) A c l∧(Lit.int .i64 l.kind).wf=true∧(Lit.int .i64 l.num).wf=true:=by
 induction F with
 | zero =>
  intro fuel hF cs x h
  obtain ⟨xs,n,hn,_⟩:=DataW.trod_struct Try.underlying25 h
  omega
 | succ F ih =>
  intro fuel hF cs x h
  obtain ⟨xs,n,hn,hx,hl,hxl,hf⟩:=DataW.trod_struct Try.underlying25 h
  have hl3:cs.length=3:=by rw [hl];kernel_rfl
  match xs,hxl,cs,hl3 with
  | [y0,y1,y2],_,[v0,v1,v2],_ =>
   have g0:DataW.trod enc Try.prog W base sp held n 3 [v0]=some y0:=hf 0 _ rfl
   have g1:DataW.trod enc Try.prog W base sp held n 3 [v1]=some y1:=hf 1 _ rfl
   have g2:DataW.trod enc Try.prog W base sp held n 23 [v2]=some y2:=hf 2 _ rfl
   obtain ⟨k,e0,_,w0⟩:=DataW.trod_int Try.underlying3 g0
   obtain ⟨m,e1,_,w1⟩:=DataW.trod_int Try.underlying3 g1
   obtain rfl:v0=.int .i64 k:=by simpa using e0
   obtain rfl:v1=.int .i64 m:=by simpa using e1
   rcases DataW.trod_slice Try.underlying23 g2 with ⟨e2,_⟩ | ⟨a,len,cap,elems,rest,n',hn',e2,_,_,hle,hm,hlen,hel,_,_⟩
   ·obtain rfl:v2=.slice none 0 0:=by simpa using e2
    exact ⟨.mk k m [],none,0,rfl,.mk (fun _=>none) (fun _=>0) (by simp) (by omega) (fun i x hx=>by simp at hx) (fun i x hx=>by simp at hx),w0,w1⟩
   ·obtain rfl:v2=.slice (some a) len cap:=by simpa using e2
    have hc3:Try.prog.cellsOf 25=3:=by kernel_rfl
    rw [hc3] at hel
    have each:∀ i,i<len→∃ q:Lv × Option Addr × Nat,W.cells? base (a.add (i * 3)) 3=some [.int .i64 q.1.kind,.int .i64 q.1.num,.slice q.2.1 q.1.kids.length q.2.2]∧LvS W (fun _=>True) q.2.1 q.2.2 q.1:=by
     intro i hi
     have hq:=hel i hi
     rw [List.getElem?_eq_getElem (by omega)] at hq
     obtain ⟨cs',h1,h2⟩:=Option.bind_eq_some_iff.1 hq
     obtain ⟨l,A,c,rfl,h3,_⟩:=ih n' (by omega) cs' _ h2
     exact ⟨(l,A,c),h1,h3⟩
    obtain ⟨q,hq⟩:=choose_lt each
    have hcell:∀ i,i<len→∀ j,j<3→W.cell? ((a.add (i * 3)).add j)=([.int .i64 (q i).1.kind,.int .i64 (q i).1.num,.slice (q i).2.1 (q i).1.kids.length (q i).2.2]:List Value)[j]?:=fun i hi j hj=>(World.cells?_some (hq i hi).1).2.2 j hj
    have hget:∀ (i:Nat) (x:Lv),((List.range len).map fun i=>(q i).1)[i]?=some x→i<len∧x=(q i).1:=by
     intro i x hx
     have hi:i<len:=by
      rcases Nat.lt_or_ge i len with h | h
      ·exact h
      ·rw [List.getElem?_eq_none (by simpa using h)] at hx;cases hx
     rw [List.getElem?_map,List.getElem?_range hi] at hx
     exact ⟨hi,(Option.some.inj hx).symm⟩
    refine ⟨.mk k m ((List.range len).map fun i=>(q i).1),some a,cap,by simp [Lv.kind,Lv.num,Lv.kids],.mk (fun i=>(q i).2.1) (fun i=>(q i).2.2) (by simpa using hle) (by simp only [maxLen] at hm;omega) (fun i x hx=>?_) (fun i x hx=>?_),w0,w1⟩
    ·obtain ⟨hi,rfl⟩:=hget i x hx
     have hsp:a.spot=none:=by
      have h0:=hcell 0 (by omega) 0 (by omega)
      simp only [Nat.zero_mul,Addr.add,if_true] at h0
      cases hs:a.spot with
      | none=>rfl
      | some z=>simp [World.cell?,hs] at h0;split at h0 <;> simp at h0
     obtain ⟨b,o,z⟩:=a
     obtain rfl:z=none:=hsp
     have c0:=hcell i hi 0 (by omega)
     have c1:=hcell i hi 1 (by omega)
     have c2:=hcell i hi 2 (by omega)
     simp only [add_flat] at c0 c1 c2
     exact ⟨_,rfl,trivial,rfl,by rw [add_flat];exact c0,by rw [add_flat];exact c1,by rw [add_flat];exact c2⟩
    ·obtain ⟨hi,rfl⟩:=hget i x hx
     exact (hq i hi).2
end Go.Proofs.Ytdboloabpjmgaaa

namespace Go.Proofs.Ytdboloabpjmgaaa
open Go.RowKit Go.Proofs.YtdboloabpjmgaaaW.PrintWords Go.RegionInvYtdboloabpjmgaaa Go.ChangeShapes Go.WideShapes Go.Deep

set_option maxRecDepth 100000 in
theorem lvs_open {H:Type} {enc:TypeId × Value→H} {W:World} {base:Nat} {sp:Nat→Bool} {held:Bool} {fuel:Nat} {v2:Value} {y2:DataW H × List MemPlace} (g2:DataW.trod enc Try.prog W base sp held fuel 23 [v2]=some y2) :
  ∃ (vs:List Lv) (A:Option Addr) (c:Nat),v2=.slice A vs.length c∧LvS W (fun _=>True) A c (.mk 0 0 vs):=by
 rcases DataW.trod_slice Try.underlying23 g2 with ⟨e2,_⟩ | ⟨a,len,cap,elems,rest,n',hn',e2,_,_,hle,hm,hlen,hel,_,_⟩
 ·obtain rfl:v2=.slice none 0 0:=by simpa using e2
  exact ⟨[],none,0,rfl,.mk (fun _=>none) (fun _=>0) (by simp) (by omega) (fun i x hx=>by simp at hx) (fun i x hx=>by simp at hx)⟩
 ·obtain rfl:v2=.slice (some a) len cap:=by simpa using e2
  have hc3:Try.prog.cellsOf 25=3:=by kernel_rfl
  rw [hc3] at hel
  have each:∀ i,i<len→∃ q:Lv × Option Addr × Nat,W.cells? base (a.add (i * 3)) 3=some [.int .i64 q.1.kind,.int .i64 q.1.num,.slice q.2.1 q.1.kids.length q.2.2]∧LvS W (fun _=>True) q.2.1 q.2.2 q.1:=by
   intro i hi
   have hq:=hel i hi
   rw [List.getElem?_eq_getElem (by omega)] at hq
   obtain ⟨cs',h1,h2⟩:=Option.bind_eq_some_iff.1 hq
   obtain ⟨l,A,c,rfl,h3,_⟩:=lv_open n' n' (Nat.le_refl _) cs' _ h2
   exact ⟨(l,A,c),h1,h3⟩
  obtain ⟨q,hq⟩:=choose_lt each
  have hcell:∀ i,i<len→∀ j,j<3→W.cell? ((a.add (i * 3)).add j)=([.int .i64 (q i).1.kind,.int .i64 (q i).1.num,.slice (q i).2.1 (q i).1.kids.length (q i).2.2]:List Value)[j]?:=fun i hi j hj=>(World.cells?_some (hq i hi).1).2.2 j hj
  have hget:∀ (i:Nat) (x:Lv),((List.range len).map fun i=>(q i).1)[i]?=some x→i<len∧x=(q i).1:=by
   intro i x hx
   have hi:i<len:=by
    rcases Nat.lt_or_ge i len with h | h
    ·exact h
    ·rw [List.getElem?_eq_none (by simpa using h)] at hx;cases hx
   rw [List.getElem?_map,List.getElem?_range hi] at hx
   exact ⟨hi,(Option.some.inj hx).symm⟩
  refine ⟨(List.range len).map fun i=>(q i).1,some a,cap,by simp,.mk (fun i=>(q i).2.1) (fun i=>(q i).2.2) (by simpa using hle) (by simp only [maxLen] at hm;omega) (fun i x hx=>?_) (fun i x hx=>?_)⟩
  ·obtain ⟨hi,rfl⟩:=hget i x hx
   have hsp:a.spot=none:=by
    have h0:=hcell 0 (by omega) 0 (by omega)
    simp only [Nat.zero_mul,Addr.add,if_true] at h0
    cases hs:a.spot with
    | none=>rfl
    | some z=>simp [World.cell?,hs] at h0;split at h0 <;> simp at h0
   obtain ⟨b,o,z⟩:=a
   obtain rfl:z=none:=hsp
   have c0:=hcell i hi 0 (by omega)
   have c1:=hcell i hi 1 (by omega)
   have c2:=hcell i hi 2 (by omega)
   simp only [add_flat] at c0 c1 c2
   exact ⟨_,rfl,trivial,rfl,by rw [add_flat];exact c0,by rw [add_flat];exact c1,by rw [add_flat];exact c2⟩
  ·obtain ⟨hi,rfl⟩:=hget i x hx
   exact (hq i hi).2
end Go.Proofs.Ytdboloabpjmgaaa

namespace Go.Proofs.Ytdboloabpjmgaaa
open Go.RowKit Go.Proofs.YtdboloabpjmgaaaW.PrintWords Go.RegionInvYtdboloabpjmgaaa Go.ChangeShapes Go.WideShapes Go.Deep

section
variable {H:Type} {enc:TypeId × Value→H} {W:World} {base:Nat} {sp:Nat→Bool} {held:Bool}
def Sized (t:TypeId) (d:DataW H):Prop:=(DataW.weights Try.prog t d).all (·≤reachBytes)=true
theorem all_at {t:TypeId}:∀ {l:List (DataW H)},(DataW.weightsAll Try.prog t l).all (·≤reachBytes)=true→∀ (i:Nat) (d:DataW H),l[i]?=some d→Sized t d
 | [],_,i,d,h=>by simp at h
 | x :: r,hw,i,d,h=>by
  rw [DataW.weightsAll,List.all_append,Bool.and_eq_true] at hw
  cases i with
  | zero=>simp at h;subst h;exact hw.1
  | succ j=>exact all_at hw.2 j d (by simpa using h)
theorem each_at:∀ {ts:List TypeId} {l:List (DataW H)},(DataW.weightsEach Try.prog ts l).all (·≤reachBytes)=true→∀ (i:Nat) (t:TypeId) (d:DataW H),ts[i]?=some t→l[i]?=some d→Sized t d
 | [],l,_,i,t,d,h,_=>by simp at h
 | _ :: _,[],_,i,t,d,_,h=>by simp at h
 | s :: ts,x :: r,hw,i,t,d,ht,hd=>by
  rw [DataW.weightsEach,List.all_append,Bool.and_eq_true] at hw
  cases i with
  | zero=>simp at ht hd;subst ht;subst hd;exact hw.1
  | succ j=>exact each_at hw.2 j t d (by simpa using ht) (by simpa using hd)
theorem sized_agg {t:TypeId} {fs:Array Field} {ps:List (DataW H)} (hu:Try.prog.underlying t=some (.struct fs)) (h:Sized t (.agg ps)):∀ (i:Nat) (f:Field) (d:DataW H),fs[i]?=some f→ps[i]?=some d→Sized f.type d:=by
 unfold Sized at h
 rw [DataW.weights,hu] at h
 intro i f d hf hd
 exact each_at h i f.type d (by simp [hf]) hd
theorem sized_slices {t e:TypeId} {es rs:List (DataW H)} (hu:Try.prog.underlying t=some (.slice e)) (h:Sized t (.slice es rs)):(es.length+rs.length) * Try.prog.bytesOf e≤140737488351232∧∀ (i:Nat) (d:DataW H),es[i]?=some d→Sized e d:=by
 unfold Sized at h
 rw [DataW.weights,hu] at h
 simp only [List.all_cons,List.all_append,Bool.and_eq_true,decide_eq_true_eq] at h
 exact ⟨h.1,fun i d hd=>all_at h.2.1 i d hd⟩
theorem sized_str {t:TypeId} {s:List UInt8} (h:Sized (H:=H) t (.lit (.string s))):s.length≤140737488351232:=by
 unfold Sized at h
 rw [DataW.weights] at h
 have h':s.length≤reachBytes:=by simpa using h
 exact h'
theorem lvs_len {fuel:Nat} {v:Value} {y:DataW H × List MemPlace} (g:DataW.trod enc Try.prog W base sp held fuel 23 [v]=some y) (hw:Sized 23 y.1) {A:Option Addr} {n c:Nat} (he:v=.slice A n c):n * 40≤140737488355328:=by
 subst he
 rcases DataW.trod_slice Try.underlying23 g with ⟨e2,_⟩ | ⟨a,len,cap,elems,rest,n',hn',e2,hy,_,hle,hm,hlen,hel,_,_⟩
 ·have:n=0:=by simp at e2;exact e2.2.1
  omega
 ·have:n=len:=by simp at e2;exact e2.2.1
  subst this
  subst hy
  have h:=(sized_slices Try.underlying23 hw).1
  rw [show Try.prog.bytesOf 25=40 by kernel_rfl] at h
  simp only [List.length_map] at h
  have:=Nat.le_mul_of_pos_right elems.length (show 0<40 by decide)
  have h2:n * 40≤(elems.length+rest.length) * 40:=Nat.mul_le_mul_right _ (by omega)
  omega
theorem plain_addr {a:Addr} {v:Value} (h:W.cell? a=some v):a.spot=none:=by
 cases hs:a.spot with
 | none=>rfl
 | some z=>simp [World.cell?,hs] at h;split at h <;> simp at h
theorem int_range {n:Int} (h:(Lit.int .i64 n).wf=true):-9223372036854775808≤n∧n≤9223372036854775807:=by simpa [Lit.wf,IntKind.min,IntKind.max,IntKind.signed,IntKind.bits] using h
set_option maxRecDepth 100000 in
set_option maxHeartbeats 4000000 in
theorem tm_open (F:Nat):∀ (fuel:Nat),fuel≤F→∀ (cs:List Value) (x:DataW H × List MemPlace),DataW.trod enc Try.prog W base sp held fuel 28 cs=some x→Sized 28 x.1 →
  ∃ (t:Tm) (p:Pl),cs=tmC p t∧TmS W (fun _=>True) p t:=by
 induction F with
 | zero =>
  intro fuel hF cs x h
  obtain ⟨xs,n,hn,_⟩:=DataW.trod_struct Try.underlying28 h
  omega
 | succ F ih =>
  intro fuel hF cs x h hw
  obtain ⟨xs,n,hn,hx,hl,hxl,hf⟩:=DataW.trod_struct Try.underlying28 h
  have hl8:cs.length=8:=by rw [hl];kernel_rfl
  match xs,hxl,cs,hl8 with
  | [y0,y1,y2,y3,y4,y5],_,[v0,v1,v2,v3,v4,v5,v6,v7],_ =>
   subst hx
   have g0:DataW.trod enc Try.prog W base sp held n 3 [v0]=some y0:=hf 0 _ rfl
   have g1:DataW.trod enc Try.prog W base sp held n 3 [v1]=some y1:=hf 1 _ rfl
   have g2:DataW.trod enc Try.prog W base sp held n 9 [v2]=some y2:=hf 2 _ rfl
   have g3:DataW.trod enc Try.prog W base sp held n 25 [v3,v4,v5]=some y3:=hf 3 _ rfl
   have g4:DataW.trod enc Try.prog W base sp held n 23 [v6]=some y4:=hf 4 _ rfl
   have g5:DataW.trod enc Try.prog W base sp held n 26 [v7]=some y5:=hf 5 _ rfl
   have z2:Sized 9 y2.1:=sized_agg Try.underlying28 hw 2 _ _ rfl rfl
   have z4:Sized 23 y4.1:=sized_agg Try.underlying28 hw 4 _ _ rfl rfl
   have z5:Sized 26 y5.1:=sized_agg Try.underlying28 hw 5 _ _ rfl rfl
   obtain ⟨k,e0,_,w0⟩:=DataW.trod_int Try.underlying3 g0
   obtain ⟨m,e1,_,w1⟩:=DataW.trod_int Try.underlying3 g1
   obtain ⟨s,e2,e2',_⟩:=DataW.trod_string Try.underlying9 g2
   obtain rfl:v0=.int .i64 k:=by simpa using e0
   obtain rfl:v1=.int .i64 m:=by simpa using e1
   obtain rfl:v2=.string s:=by simpa using e2
   have hs:s.size≤140737488355328:=by
    rw [e2'] at z2
    have:=sized_str z2
    simp at this
    have e:s.size=s.data.size:=rfl
    omega
   obtain ⟨l,A,c,e3,hlv,_,_⟩:=lv_open n n (Nat.le_refl _) _ _ g3
   obtain ⟨ls,B,d,rfl,hls⟩:=lvs_open g4
   have hll:=lvs_len g4 z4 rfl
   obtain ⟨rfl,rfl,rfl⟩:v3=.int .i64 l.kind∧v4=.int .i64 l.num∧v5=.slice A l.kids.length c:=by simpa using e3
   have hfit:Fit m s ls:=⟨int_range w1,hs,hll⟩
   rcases DataW.trod_slice Try.underlying26 g5 with ⟨e5,_⟩ | ⟨a,len,cap,elems,rest,n',hn',e5,hy,_,hle,hm,hlen,hel,_,_⟩
   ·obtain rfl:v7=.slice none 0 0:=by simpa using e5
    exact ⟨.mk k m s l ls [],⟨A,c,B,d,none,0⟩,rfl,.mk (fun _=>default) hlv hls (by simp) (by simp) hfit (fun i x hx=>by simp at hx) (fun i x hx=>by simp at hx)⟩
   ·obtain rfl:v7=.slice (some a) len cap:=by simpa using e5
    subst hy
    have hz:=(sized_slices Try.underlying26 z5).2
    have hc8:Try.prog.cellsOf 28=8:=by kernel_rfl
    rw [hc8] at hel
    have each:∀ i,i<len→∃ q:Tm × Pl,W.cells? base (a.add (i * 8)) 8=some (tmC q.2 q.1)∧TmS W (fun _=>True) q.2 q.1:=by
     intro i hi
     have hq:=hel i hi
     rw [List.getElem?_eq_getElem (by omega)] at hq
     obtain ⟨cs',h1,h2⟩:=Option.bind_eq_some_iff.1 hq
     obtain ⟨t,p,rfl,h3⟩:=ih n' (by omega) cs' _ h2 (hz i _ (by rw [List.getElem?_map,List.getElem?_eq_getElem (by omega)];rfl))
     exact ⟨(t,p),h1,h3⟩
    obtain ⟨q,hq⟩:=choose_lt each
    have hcell:∀ i,i<len→∀ j,j<8→W.cell? ((a.add (i * 8)).add j)=(tmC (q i).2 (q i).1)[j]?:=fun i hi j hj=>(World.cells?_some (hq i hi).1).2.2 j hj
    have hget:∀ (i:Nat) (x:Tm),((List.range len).map fun i=>(q i).1)[i]?=some x→i<len∧x=(q i).1:=by
     intro i x hx
     have hi:i<len:=by
      rcases Nat.lt_or_ge i len with h | h
      ·exact h
      ·rw [List.getElem?_eq_none (by simpa using h)] at hx;cases hx
     rw [List.getElem?_map,List.getElem?_range hi] at hx
     exact ⟨hi,(Option.some.inj hx).symm⟩
    refine ⟨.mk k m s l ls ((List.range len).map fun i=>(q i).1),⟨A,c,B,d,some a,cap⟩,by simp [tmC,Tm.kind,Tm.num,Tm.name,Tm.lv,Tm.ls,Tm.kids],.mk (fun i=>(q i).2) hlv hls (by simpa using hle) (by simp only [maxLen] at hm;exact hm) hfit (fun i x hx=>?_) (fun i x hx=>?_)⟩
    ·obtain ⟨hi,rfl⟩:=hget i x hx
     have h0:=hcell 0 (by omega) 0 (by omega)
     simp only [Nat.zero_mul,Addr.add,if_true] at h0
     have hsp:a.spot=none:=plain_addr (h0.trans (by rfl))
     obtain ⟨b,o,z⟩:=a
     obtain rfl:z=none:=hsp
     refine ⟨b,o,rfl,trivial,fun j v hv=>?_⟩
     have hj:j<8:=by
      rcases Nat.lt_or_ge j 8 with h | h
      ·exact h
      ·rw [List.getElem?_eq_none (by rw [tmC_len];exact h)] at hv;cases hv
     have c0:=hcell i hi j hj
     simp only [add_flat] at c0
     rw [c0]
     exact hv
    ·obtain ⟨hi,rfl⟩:=hget i x hx
     exact (hq i hi).2
set_option maxRecDepth 100000 in
theorem tm_in {v:Value} {d:DataW H} {ps:List MemPlace} {r:Reach} {b0:Nat} (hv:Value.okWide Try.prog W r b0 28 v) (h:DataW.Trod enc Try.prog W base sp held 28 v d ps) (hw:Sized 28 d) :
  ∃ (t:Tm) (p:Pl),v=tmV p t∧TmS W (fun _=>True) p t:=by
 obtain ⟨cs,rfl,hcs⟩:=okWide_struct Try.underlying28 hv
 obtain ⟨fuel,hf⟩:=h
 obtain ⟨t,p,he,ht⟩:=tm_open fuel fuel (Nat.le_refl _) _ _ hf hw
 refine ⟨t,p,?_,ht⟩
 unfold tmV
 congr 1
 apply Array.toList_inj.1
 simpa [Value.cells,tmC] using he

end
end Go.Proofs.Ytdboloabpjmgaaa

namespace Go.Proofs.Ytdboloabpjmgaaa
open Go.RowKit Go.Proofs.YtdboloabpjmgaaaW.PrintWords Go.RegionInvYtdboloabpjmgaaa Go.ChangeShapes Go.WideShapes Go.Deep

inductive TmM:Tm→Prop
 | mk {k n:Int} {nm:ByteArray} {lv:Lv} {ls:List Lv} {ks:List Tm} (hl:LvM mostRow lv) (hs:∀ x∈ls,LvM mostRow x) (hk:∀ x∈ks,TmM x):TmM (.mk k n nm lv ls ks)
theorem range_all {α:Type} {n:Nat} {f:Nat→α} {P:α→Prop} (h:∀ i,i<n→P (f i)):∀ x∈(List.range n).map f,P x:=by
 intro x hx
 obtain ⟨i,hi,rfl⟩:=List.mem_map.1 hx
 exact h i (List.mem_range.1 hi)
section
variable {H:Type} {enc:TypeId × Value→H} {W:World} {base:Nat} {sp:Nat→Bool} {held:Bool}
theorem row_le {es rs:List (DataW H)} (h:Sized (H:=H) 23 (.slice es rs)) {n:Nat} (hn:n≤es.length):n≤mostRow:=by
 have h1:=(sized_slices Try.underlying23 h).1
 rw [show Try.prog.bytesOf 25=40 by kernel_rfl] at h1
 have h2:n * 40≤(es.length+rs.length) * 40:=Nat.mul_le_mul_right _ (by omega)
 show n≤8796093022208
 omega
set_option maxRecDepth 100000 in
theorem lv_openM (F:Nat):∀ (fuel:Nat),fuel≤F→∀ (cs:List Value) (x:DataW H × List MemPlace),
  DataW.trod enc Try.prog W base sp held fuel 25 cs=some x→Sized 25 x.1→∃ (l:Lv) (A:Option Addr) (c:Nat),cs=[.int .i64 l.kind,.int .i64 l.num,.slice A l.kids.length c]∧LvS W (fun _=>True) A c l∧(Lit.int .i64 l.kind).wf=true∧(Lit.int .i64 l.num).wf=true∧LvM mostRow l:=by
 induction F with
 | zero =>
  intro fuel hF cs x h
  obtain ⟨xs,n,hn,_⟩:=DataW.trod_struct Try.underlying25 h
  omega
 | succ F ih =>
  intro fuel hF cs x h hw
  obtain ⟨xs,n,hn,hx,hl,hxl,hf⟩:=DataW.trod_struct Try.underlying25 h
  have hl3:cs.length=3:=by rw [hl];kernel_rfl
  match xs,hxl,cs,hl3 with
  | [y0,y1,y2],_,[v0,v1,v2],_ =>
   subst hx
   have g0:DataW.trod enc Try.prog W base sp held n 3 [v0]=some y0:=hf 0 _ rfl
   have g1:DataW.trod enc Try.prog W base sp held n 3 [v1]=some y1:=hf 1 _ rfl
   have g2:DataW.trod enc Try.prog W base sp held n 23 [v2]=some y2:=hf 2 _ rfl
   have z2:Sized 23 y2.1:=sized_agg Try.underlying25 hw 2 _ _ rfl rfl
   obtain ⟨k,e0,_,w0⟩:=DataW.trod_int Try.underlying3 g0
   obtain ⟨m,e1,_,w1⟩:=DataW.trod_int Try.underlying3 g1
   obtain rfl:v0=.int .i64 k:=by simpa using e0
   obtain rfl:v1=.int .i64 m:=by simpa using e1
   rcases DataW.trod_slice Try.underlying23 g2 with ⟨e2,_⟩ | ⟨a,len,cap,elems,rest,n',hn',e2,hy,_,hle,hm,hlen,hel,_,_⟩
   ·obtain rfl:v2=.slice none 0 0:=by simpa using e2
    exact ⟨.mk k m [],none,0,rfl,.mk (fun _=>none) (fun _=>0) (by simp) (by omega) (fun i x hx=>by simp at hx) (fun i x hx=>by simp at hx),w0,w1,.mk (by simp) (fun x hx=>by simp at hx)⟩
   ·obtain rfl:v2=.slice (some a) len cap:=by simpa using e2
    subst hy
    have hz:=(sized_slices Try.underlying23 z2).2
    have hlr:=row_le z2 (n:=len) (by simp;omega)
    have hc3:Try.prog.cellsOf 25=3:=by kernel_rfl
    rw [hc3] at hel
    have each:∀ i,i<len→∃ q:Lv × Option Addr × Nat,W.cells? base (a.add (i * 3)) 3=some [.int .i64 q.1.kind,.int .i64 q.1.num,.slice q.2.1 q.1.kids.length q.2.2]∧LvS W (fun _=>True) q.2.1 q.2.2 q.1∧LvM mostRow q.1:=by
     intro i hi
     have hq:=hel i hi
     rw [List.getElem?_eq_getElem (by omega)] at hq
     obtain ⟨cs',h1,h2⟩:=Option.bind_eq_some_iff.1 hq
     obtain ⟨l,A,c,rfl,h3,_,_,h4⟩:=ih n' (by omega) cs' _ h2 (hz i _ (by rw [List.getElem?_map,List.getElem?_eq_getElem (by omega)];rfl))
     exact ⟨(l,A,c),h1,h3,h4⟩
    obtain ⟨q,hq⟩:=choose_lt each
    have hcell:∀ i,i<len→∀ j,j<3→W.cell? ((a.add (i * 3)).add j)=([.int .i64 (q i).1.kind,.int .i64 (q i).1.num,.slice (q i).2.1 (q i).1.kids.length (q i).2.2]:List Value)[j]?:=fun i hi j hj=>(World.cells?_some (hq i hi).1).2.2 j hj
    have hget:∀ (i:Nat) (x:Lv),((List.range len).map fun i=>(q i).1)[i]?=some x→i<len∧x=(q i).1:=by
     intro i x hx
     have hi:i<len:=by
      rcases Nat.lt_or_ge i len with h | h
      ·exact h
      ·rw [List.getElem?_eq_none (by simpa using h)] at hx;cases hx
     rw [List.getElem?_map,List.getElem?_range hi] at hx
     exact ⟨hi,(Option.some.inj hx).symm⟩
    refine ⟨.mk k m ((List.range len).map fun i=>(q i).1),some a,cap,by simp [Lv.kind,Lv.num,Lv.kids],.mk (fun i=>(q i).2.1) (fun i=>(q i).2.2) (by simpa using hle) (by simp only [maxLen] at hm;omega) (fun i x hx=>?_) (fun i x hx=>?_),w0,w1,.mk (by simpa using hlr) (range_all fun i hi=>(hq i hi).2.2)⟩
    ·obtain ⟨hi,rfl⟩:=hget i x hx
     have hsp:a.spot=none:=by
      have h0:=hcell 0 (by omega) 0 (by omega)
      simp only [Nat.zero_mul,Addr.add,if_true] at h0
      cases hs:a.spot with
      | none=>rfl
      | some z=>simp [World.cell?,hs] at h0;split at h0 <;> simp at h0
     obtain ⟨b,o,z⟩:=a
     obtain rfl:z=none:=hsp
     have c0:=hcell i hi 0 (by omega)
     have c1:=hcell i hi 1 (by omega)
     have c2:=hcell i hi 2 (by omega)
     simp only [add_flat] at c0 c1 c2
     exact ⟨_,rfl,trivial,rfl,by rw [add_flat];exact c0,by rw [add_flat];exact c1,by rw [add_flat];exact c2⟩
    ·obtain ⟨hi,rfl⟩:=hget i x hx
     exact (hq i hi).2.1
set_option maxRecDepth 100000 in
theorem lvs_openM {fuel:Nat} {v2:Value} {y2:DataW H × List MemPlace} (g2:DataW.trod enc Try.prog W base sp held fuel 23 [v2]=some y2) (z2:Sized 23 y2.1) :
  ∃ (vs:List Lv) (A:Option Addr) (c:Nat),v2=.slice A vs.length c∧LvS W (fun _=>True) A c (.mk 0 0 vs)∧∀ x∈vs,LvM mostRow x:=by
 rcases DataW.trod_slice Try.underlying23 g2 with ⟨e2,_⟩ | ⟨a,len,cap,elems,rest,n',hn',e2,hy,_,hle,hm,hlen,hel,_,_⟩
 ·obtain rfl:v2=.slice none 0 0:=by simpa using e2
  exact ⟨[],none,0,rfl,.mk (fun _=>none) (fun _=>0) (by simp) (by omega) (fun i x hx=>by simp at hx) (fun i x hx=>by simp at hx),fun x hx=>by simp at hx⟩
 ·obtain rfl:v2=.slice (some a) len cap:=by simpa using e2
  subst hy
  have hz:=(sized_slices Try.underlying23 z2).2
  have hc3:Try.prog.cellsOf 25=3:=by kernel_rfl
  rw [hc3] at hel
  have each:∀ i,i<len→∃ q:Lv × Option Addr × Nat,W.cells? base (a.add (i * 3)) 3=some [.int .i64 q.1.kind,.int .i64 q.1.num,.slice q.2.1 q.1.kids.length q.2.2]∧LvS W (fun _=>True) q.2.1 q.2.2 q.1∧LvM mostRow q.1:=by
   intro i hi
   have hq:=hel i hi
   rw [List.getElem?_eq_getElem (by omega)] at hq
   obtain ⟨cs',h1,h2⟩:=Option.bind_eq_some_iff.1 hq
   obtain ⟨l,A,c,rfl,h3,_,_,h4⟩:=lv_openM n' n' (Nat.le_refl _) cs' _ h2 (hz i _ (by rw [List.getElem?_map,List.getElem?_eq_getElem (by omega)];rfl))
   exact ⟨(l,A,c),h1,h3,h4⟩
  obtain ⟨q,hq⟩:=choose_lt each
  have hcell:∀ i,i<len→∀ j,j<3→W.cell? ((a.add (i * 3)).add j)=([.int .i64 (q i).1.kind,.int .i64 (q i).1.num,.slice (q i).2.1 (q i).1.kids.length (q i).2.2]:List Value)[j]?:=fun i hi j hj=>(World.cells?_some (hq i hi).1).2.2 j hj
  have hget:∀ (i:Nat) (x:Lv),((List.range len).map fun i=>(q i).1)[i]?=some x→i<len∧x=(q i).1:=by
   intro i x hx
   have hi:i<len:=by
    rcases Nat.lt_or_ge i len with h | h
    ·exact h
    ·rw [List.getElem?_eq_none (by simpa using h)] at hx;cases hx
   rw [List.getElem?_map,List.getElem?_range hi] at hx
   exact ⟨hi,(Option.some.inj hx).symm⟩
  refine ⟨(List.range len).map fun i=>(q i).1,some a,cap,by simp,.mk (fun i=>(q i).2.1) (fun i=>(q i).2.2) (by simpa using hle) (by simp only [maxLen] at hm;omega) (fun i x hx=>?_) (fun i x hx=>?_),range_all fun i hi=>(hq i hi).2.2⟩
  ·obtain ⟨hi,rfl⟩:=hget i x hx
   have hsp:a.spot=none:=by
    have h0:=hcell 0 (by omega) 0 (by omega)
    simp only [Nat.zero_mul,Addr.add,if_true] at h0
    cases hs:a.spot with
    | none=>rfl
    | some z=>simp [World.cell?,hs] at h0;split at h0 <;> simp at h0
   obtain ⟨b,o,z⟩:=a
   obtain rfl:z=none:=hsp
   have c0:=hcell i hi 0 (by omega)
   have c1:=hcell i hi 1 (by omega)
   have c2:=hcell i hi 2 (by omega)
   simp only [add_flat] at c0 c1 c2
   exact ⟨_,rfl,trivial,rfl,by rw [add_flat];exact c0,by rw [add_flat];exact c1,by rw [add_flat];exact c2⟩
  ·obtain ⟨hi,rfl⟩:=hget i x hx
   exact (hq i hi).2.1
set_option maxRecDepth 100000 in
theorem lvs_inM {v:Value} {d:DataW H} {ps:List MemPlace} {r:Reach} {b0:Nat} (hv:Value.okWide Try.prog W r b0 23 v) (h:DataW.Trod enc Try.prog W base sp held 23 v d ps) (hw:Sized 23 d) :
  ∃ (vs:List Lv) (A:Option Addr) (c n:Nat),v=.slice A n c∧n=vs.length∧LvS W (fun _=>True) A c (.mk 0 0 vs)∧(∀ x∈vs,LvM mostRow x)∧n * 40≤140737488355328:=by
 obtain ⟨a,len,cap,rfl⟩:=okWide_slice Try.underlying23 hv
 obtain ⟨fuel,hf⟩:=h
 obtain ⟨vs,A,c,he,hl,hm⟩:=lvs_openM (v2:=.slice a len cap) hf hw
 have h40:=lvs_len hf hw he
 exact ⟨vs,A,c,_,he,rfl,hl,hm,h40⟩
end
end Go.Proofs.Ytdboloabpjmgaaa

namespace Go.Proofs.Ytdboloabpjmgaaa
open Go.RowKit Go.Proofs.YtdboloabpjmgaaaW.PrintWords Go.RegionInvYtdboloabpjmgaaa Go.RegionEYtdboloabpjmgaaa

theorem sim_cp (N:Nat):∀ (l:Lv),SizeOf.sizeOf l<N→simB (cpP l) l=true:=by
 induction N with
 | zero=>intro l h;omega
 | succ N ih =>
  rintro ⟨k,n,ks⟩ hN
  rw [cpP,cpKs_map,sim_ok (k:=k) (n:=if k=4 then 0 else n) (ks:=ks.map cpP) (l:=.mk k n ks) ⟨rfl,?_,by simp [Lv.kids]⟩]
  ·refine simKs_all (by simp [Lv.kids]) fun i x y h1 h2=>?_
   rw [List.getElem?_map] at h1
   have h2':ks[i]?=some y:=h2
   rw [h2'] at h1
   obtain rfl:cpP y=x:=by simpa using h1
   exact ih y (Nat.lt_of_lt_of_le (kid_small h2') (Nat.le_of_lt_succ hN))
  ·by_cases h:k=4
   ·exact .inl h
   ·right;show (if k=4 then 0 else n)=n;rw [if_neg h]
theorem sl_ow (l:Lv):slB (owP l) l=true:=by
 unfold slB
 cases hs:soundB l with
 | false=>simp
 | true=>rw [owP_sound hs,sim_cp _ l (Nat.lt_succ_self _)];rfl
theorem TmM.lv {t:Tm} (h:TmM t):LvM mostRow t.lv:=by cases h;assumption
theorem TmM.ls {t:Tm} (h:TmM t):∀ x∈t.ls,LvM mostRow x:=by cases h;assumption
theorem TmM.kid {t:Tm} (h:TmM t):∀ x∈t.kids,TmM x:=by cases h;assumption
theorem TmM.kidF {t:Tm} (h:TmM t) (i:Fin (nK t)):TmM (kidF t i):=h.kid _ (List.getElem_mem _)
end Go.Proofs.Ytdboloabpjmgaaa

namespace Go.Proofs.Ytdboloabpjmgaaa
open Go.RowKit Go.Proofs.YtdboloabpjmgaaaW.PrintWords Go.RegionInvYtdboloabpjmgaaa Go.RegionEYtdboloabpjmgaaa

structure Nr (a b:Tm):Prop where
 near:nearT a b=true
 size:sizeT a=sizeT b
 depth:depthT a=depthT b
theorem near_node {a b:Tm} (ha:leafT a=false) (hb:leafT b=false) (hk:a.kind=b.kind) (h:∀ i (h1:i<nK a) (h2:i<nK b),nearT (kidF a ⟨i,h1⟩) (kidF b ⟨i,h2⟩)=true) (hn:nK a=nK b):nearT a b=true:=by
 rw [near_eq,hn_node ha hb hk,Bool.true_and,List.all_eq_true]
 intro i _
 have h2:i.1<nK b:=by have:=i.2;omega
 have e:b.kids.getD i.1 default=kidF b ⟨i.1,h2⟩:=by
  have:=kidF_get b ⟨i.1,h2⟩
  rw [List.getD_eq_getElem?_getD,this]
  rfl
 rw [e]
 exact h i.1 i.2 h2
theorem sum_eq {α:Type} (xs:List α) (f g:α→Nat) (h:∀ x∈xs,f x=g x):xs.map f=xs.map g:=List.map_congr_left h
theorem size_over (F:Tm→Int→Tm) {t:Tm} {b:Int} (hl:leafT t=false):sizeT (overT F t b)=1+((List.finRange (nK t)).map fun i=>sizeT (rebP F (kidF t i) (b+moreZ t i))).sum∧depthT (overT F t b)=1+((List.finRange (nK t)).map fun i=>depthT (rebP F (kidF t i) (b+moreZ t i))).foldr max 0:=by
 have hn:=over_nK (RF:=F) (b:=b) hl
 have key:∀ (f:Tm→Nat),((List.finRange (nK (overT F t b))).map fun i=>f (kidF (overT F t b) i))=((List.finRange (nK t)).map fun i=>f (rebP F (kidF t i) (b+moreZ t i))):=by
  intro f
  apply List.ext_getElem
  ·simp [hn]
  ·intro i h1 h2
   simp only [List.getElem_map,List.getElem_finRange]
   exact congrArg f (over_kid i _ _)
 refine ⟨?_,?_⟩
 ·rw [sizeT,key sizeT]
 ·rw [depthT,key depthT]
theorem lvs_ow:∀ (ls:List Lv),lvsSl (ls.map owP) ls=true
 | []=>rfl
 | x :: r=>by
  show (slB (owP x) x && lvsSl (r.map owP) r)=true
  rw [sl_ow,lvs_ow r];rfl
theorem Nr.ok {a b:Tm} (h:Nr a b):okT a↔okT b:=by unfold okT;rw [h.size,h.depth]
end Go.Proofs.Ytdboloabpjmgaaa

namespace Go.Proofs.Ytdboloabpjmgaaa
open Go.RowKit Go.Proofs.YtdboloabpjmgaaaW.PrintWords Go.RegionInvYtdboloabpjmgaaa Go.RegionEYtdboloabpjmgaaa

theorem m0 (k n:Int):LvM mostRow (.mk k n []):=.mk (Nat.zero_le _) (fun x h=>by simp at h)
theorem m1 {k n:Int} {x:Lv} (h:LvM mostRow x):LvM mostRow (.mk k n [x]):=.mk (by show 1≤8796093022208;omega) (fun y hy=>(List.mem_singleton.1 hy) ▸ h)
def lvF (vs:List Lv) (x:Tm) (_:Int):Tm:=.mk x.kind (if x.kind=1 then x.num else 0) (if x.kind=7 then x.name else noName) (if x.kind=2 then instL vs x.lv else lv0) (if x.kind=7 then x.ls.map (instL vs) else []) []
def InstLvT (t:Tm) (vs:List Lv):Tm:=if okT t then rebP (lvF vs) t 0 else zeroT
end Go.Proofs.Ytdboloabpjmgaaa

namespace Go.Proofs.Ytdboloabpjmgaaa
open Go.RowKit Go.Proofs.YtdboloabpjmgaaaW.PrintWords Go.RegionInvYtdboloabpjmgaaa Go.RegionEYtdboloabpjmgaaa

structure TsR (w:World) (rb:Nat) (S:Nat→Prop) (q:Nat→Pl) (xs:List Tm):Prop where
 row:∃ arr:Array Value,w.heap[rb]?=some (.cells arr 28 (0,0))∧xs.length * 8≤arr.size
 cells:∀ (i:Nat) (x:Tm),xs[i]?=some x→w.rangeAt rb (i * 8) (tmC (q i) x)
 tms:∀ (i:Nat) (x:Tm),xs[i]?=some x→TmS w S (q i) x
theorem TsR.lt {w:World} {rb:Nat} {S:Nat→Prop} {q:Nat→Pl} {xs:List Tm} (h:TsR w rb S q xs):rb<w.heap.size:=by
 obtain ⟨arr,ha,-⟩:=h.row
 exact blk_lt ha
theorem TsR.same {w w':World} {rb:Nat} {S:Nat→Prop} {q:Nat→Pl} {xs:List Tm} (h:TsR w rb S q xs) (h1:w'.heap[rb]?=w.heap[rb]?) (h2:∀ k,S k→k<w.heap.size→w'.heap[k]?=w.heap[k]?):TsR w' rb S q xs:=by
 obtain ⟨arr,ha,hl⟩:=h.row
 exact ⟨⟨arr,h1.trans ha,hl⟩,fun i x hi j v hv=>(cell_same h1).trans (h.cells i x hi j v hv),fun i x hi=>(h.tms i x hi).same h2⟩
theorem TsR.mono {w:World} {rb:Nat} {S S':Nat→Prop} {q:Nat→Pl} {xs:List Tm} (h:TsR w rb S q xs) (h2:∀ k,S k→k<w.heap.size→S' k):TsR w rb S' q xs:=
 ⟨h.row,h.cells,fun i x hi=>(h.tms i x hi).mono h2⟩
theorem TsR.there {w:World} {rb j:Nat} {S:Nat→Prop} {q:Nat→Pl} {xs:List Tm} (h:TsR w rb S q xs) (hj:j<xs.length):w.there rb (j * 8) 8:=fun m hm=>by
 obtain ⟨arr,ha,hl⟩:=h.row
 refine ⟨?_,blk_frozen ha _⟩
 rw [cell_of_row _ _ _ _ _ _ ha,Array.getElem?_eq_getElem (by omega)];rfl
theorem setCells_block {g:Nat} {t:TypeId}:∀ {w:World} {arr:Array Value},w.heap[g]?=some (.cells arr t (0,0))→∀ (o:Nat) (vs:List Value),∃ arr',(w.setCells g o vs).heap[g]?=some (.cells arr' t (0,0))∧arr'.size=arr.size
 | w,arr,h,o,[]=>⟨arr,h,rfl⟩
 | w,arr,h,o,v :: r=>by
  rw [World.setCells]
  obtain ⟨a',h1,h2⟩:=setCells_block (blk_put h o v rfl) (o+1) r
  exact ⟨a',h1,by rw [h2];simp⟩
theorem TsR.set {w:World} {rb j:Nat} {S:Nat→Prop} {q:Nat→Pl} {xs:List Tm} (h:TsR w rb S q xs) (hj:j<xs.length) (hS:¬ S rb) (p:Pl) (y:Tm) (hy:TmS w S p y) :
  TsR (w.setCells rb (j * 8) (tmC p y)) rb S (fun k=>if k=j then p else q k) (xs.set j y)∧Chg (fun k=>k=rb) w (w.setCells rb (j * 8) (tmC p y)):=by
 obtain ⟨s1,s2,s3,s4,s5⟩:=setCells_other rb (tmC p y) (j * 8) w
 have hth:=h.there hj
 have hst:∀ (k:Nat),S k→k<w.heap.size→(w.setCells rb (j * 8) (tmC p y)).heap[k]?=w.heap[k]?:=fun k hk _=>s5 k (fun e=>hS (e ▸ hk))
 refine ⟨⟨?_,fun i x hi=>?_,fun i x hi=>?_⟩,⟨s1,s2,s3,Nat.le_of_eq s4.symm,fun k _ hn=>s5 k hn⟩⟩
 ·obtain ⟨arr,ha,hl⟩:=h.row
  obtain ⟨arr',ha',hl'⟩:=setCells_block ha (j * 8) (tmC p y)
  exact ⟨arr',ha',by rw [List.length_set,hl'];exact hl⟩
 ·rw [List.getElem?_set] at hi
  by_cases e:j=i
  ·subst e
   rw [if_pos rfl,if_pos hj] at hi
   obtain rfl:y=x:=by simpa using hi
   simp only [if_pos]
   exact World.rangeAt_setCells_same w rb (j * 8) (tmC p y) hth
  ·rw [if_neg e] at hi
   have e2:¬ i=j:=fun h=>e h.symm
   simp only [if_neg e2]
   exact World.rangeAt_setCells_apart (h.cells i x hi) rb (j * 8) (tmC p y) (by right;show i * 8+8≤j * 8∨j * 8+8≤i * 8;omega)
 ·rw [List.getElem?_set] at hi
  by_cases e:j=i
  ·subst e
   rw [if_pos rfl,if_pos hj] at hi
   obtain rfl:y=x:=by simpa using hi
   simp only [if_pos]
   exact hy.same hst
  ·rw [if_neg e] at hi
   have e2:¬ i=j:=fun h=>e h.symm
   simp only [if_neg e2]
   exact (h.tms i x hi).same hst
def revK (xs:List Tm) (k:Nat):List Tm:=(List.range xs.length).map fun m=>if m<k∨xs.length - 1 - m<k then xs.getD (xs.length - 1 - m) default else xs.getD m default
theorem revK_len (xs:List Tm) (k:Nat):(revK xs k).length=xs.length:=by simp [revK]
theorem revK_get {xs:List Tm} {k m:Nat} (hm:m<xs.length):(revK xs k)[m]?=some (if m<k∨xs.length - 1 - m<k then xs.getD (xs.length - 1 - m) default else xs.getD m default):=by
 simp [revK,List.getElem?_map,List.getElem?_range hm]
theorem revK_0 (xs:List Tm):revK xs 0=xs:=by
 apply List.ext_getElem?
 intro m
 by_cases hm:m<xs.length
 ·rw [revK_get hm,if_neg (by omega),List.getElem?_eq_getElem hm,List.getD_eq_getElem?_getD,List.getElem?_eq_getElem hm];rfl
 ·rw [List.getElem?_eq_none (by rw [revK_len];omega),List.getElem?_eq_none (by omega)]
theorem revK_all {xs:List Tm} {k:Nat} (hk:xs.length - 1≤2 * k):revK xs k=xs.reverse:=by
 apply List.ext_getElem?
 intro m
 by_cases hm:m<xs.length
 ·rw [revK_get hm,List.getElem?_reverse hm]
  have h1:xs.length - 1 - m<xs.length:=by omega
  split
  ·rw [List.getD_eq_getElem?_getD,List.getElem?_eq_getElem h1];rfl
  ·have:xs.length - 1 - m=m:=by omega
   rw [this,List.getD_eq_getElem?_getD,List.getElem?_eq_getElem hm];rfl
 ·rw [List.getElem?_eq_none (by rw [revK_len];omega),List.getElem?_eq_none (by simp;omega)]
theorem revK_step {xs:List Tm} {k:Nat} (hk:2 * k+1<xs.length):((revK xs k).set k (xs.getD (xs.length - 1 - k) default)).set (xs.length - 1 - k) (xs.getD k default)=revK xs (k+1):=by
 apply List.ext_getElem?
 intro m
 by_cases hm:m<xs.length
 ·rw [revK_get hm,List.getElem?_set,List.getElem?_set,revK_get hm]
  simp only [List.length_set,revK_len]
  by_cases h1:xs.length - 1 - k=m
  ·rw [if_pos h1,if_pos (by omega),if_pos (by omega)]
   rw [show xs.length - 1 - m=k by omega]
  ·rw [if_neg h1]
   by_cases h2:k=m
   ·rw [if_pos h2,if_pos (by omega),if_pos (by omega),h2]
   ·rw [if_neg h2]
    by_cases h3:m<k∨xs.length - 1 - m<k
    ·rw [if_pos h3,if_pos (by omega)]
    ·rw [if_neg h3,if_neg (by omega)]
 ·rw [List.getElem?_eq_none (by simp [revK_len];omega),List.getElem?_eq_none (by rw [revK_len];omega)]
theorem revK_at {xs:List Tm} {k:Nat} (hk:2 * k+1<xs.length):(revK xs k)[k]?=some (xs.getD k default)∧(revK xs k)[xs.length - 1 - k]?=some (xs.getD (xs.length - 1 - k) default):=by
 constructor
 ·rw [revK_get (by omega),if_neg (by omega)]
 ·rw [revK_get (by omega),if_neg (by omega)]
end Go.Proofs.Ytdboloabpjmgaaa

namespace Go.Proofs.Ytdboloabpjmgaaa
open Go.RowKit Go.Proofs.YtdboloabpjmgaaaW.PrintWords Go.RegionInvYtdboloabpjmgaaa Go.RegionEYtdboloabpjmgaaa
set_option linter.unusedVariables false

section
variable {ops:Array Oper} {Q:Exit→Act→World→Prop} {R:Nat→Prop} {a:Act} {w:World} {o:Oper} {G:Value→World→(Nat→Prop)→Prop}
set_option maxRecDepth 8000 in
theorem obE_loadMid {x:Operand} {b f:Nat} {q:Pl} {t:Tm} (ho:o.op=.load 28 x) (hx:a.eval x=.pointer (some ⟨b,f,none⟩)) (hc:w.rangeAt b f (tmC q t)) (hw:Region.wanted o (yielded ops a.tmps)=true) (hG:G (tmV q t) w fun _=>False):OwesE Try.prog ops Q R G o a w:=by
 unfold OwesE;rw [if_pos hw]
 exact wp_load_mid 28 x ho b f hx (tmC q t) _ hc Try.underlying28 rfl (by kernel_rfl) ⟨_,_,rfl,hG,Chg.refl _ _,fun _ h=>h.elim⟩
set_option maxRecDepth 8000 in
theorem obE_tsPut {S:Nat→Prop} {x y:Operand} {rb j:Nat} {q q':Nat→Pl} {p:Pl} {t:Tm} {xs zs:List Tm} (ho:o.op=.store 28 x y) (hw:Region.wanted o (yielded ops a.tmps)=true) (hx:a.eval x=.pointer (some ⟨rb,j * 8,none⟩)) (hy:a.eval y=tmV p t)
  (h:TsR w rb S q xs) (hj:j<xs.length) (hS:¬ S rb) (ht:TmS w S p t) (hR:R rb) (hq:q'=fun k=>if k=j then p else q k) (hz:zs=xs.set j t):OwesE Try.prog ops Q R (fun _ w O=>TsR w rb S q' zs∧O rb) o a w:=by
 obtain ⟨h1,h2⟩:=h.set hj hS p t ht
 subst hq hz
 refine obE_store (w':=w.setCells rb (j * 8) (tmC p t)) (fun k=>k=rb) hw ?_ (h2.mono fun k e=>e ▸ hR) ⟨h1,rfl⟩ (fun k e=>.inl (e ▸ hR))
 have hs:=run_storeVar_mid (P:=Try.prog) w rb (j * 8) 28 (tmC p t).toArray (h.there hj) (by kernel_rfl) (by rw [List.all_toArray];exact tmC_one p t)
 unfold execOp
 simp only [ho,hx,hy,tmV,Instr.storeAt,Instr.sureAddr,Sem.run_bind,Sem.run_pure,Result.andThen_ok]
 exact congrArg (Result.andThen · _) hs
end

def rv_ops:List Oper:=[
 { dst:=some 14,op:=Go.Op.move (Go.Operand.tmp 0),type:=26,pos:= "slices.go:485",after:=#[],guard:=none },
 { dst:=some 15,op:=Go.Op.move (Go.Operand.tmp 2),type:=3,pos:= "slices.go:485",after:=#[],guard:=none },
 { dst:=some 16,op:=Go.Op.move (Go.Operand.tmp 0),type:=26,pos:= "slices.go:485",after:=#[{ on:=13,ground:=Go.Ground.gcOnly Go.Departure.lateStores }],guard:=none },
 { dst:=some 17,op:=Go.Op.move (Go.Operand.tmp 3),type:=3,pos:= "slices.go:485",after:=#[{ on:=13,ground:=Go.Ground.gcOnly Go.Departure.lateStores }],guard:=none },
 { dst:=some 18,op:=Go.Op.move (Go.Operand.tmp 0),type:=26,pos:= "slices.go:485",after:=#[],guard:=none },
 { dst:=some 19,op:=Go.Op.move (Go.Operand.tmp 3),type:=3,pos:= "slices.go:485",after:=#[],guard:=none },
 { dst:=some 20,op:=Go.Op.indexAddr 26 (Go.Operand.tmp 18) (Go.Operand.tmp 19),type:=0,pos:= "slices.go:485",after:=#[{ on:=4,ground:=Go.Ground.data },{ on:=5,ground:=Go.Ground.data }],guard:=none },
 { dst:=some 21,op:=Go.Op.load 28 (Go.Operand.tmp 20),type:=28,pos:= "slices.go:485",after:=#[{ on:=6,ground:=Go.Ground.data }],guard:=none },
 { dst:=some 22,op:=Go.Op.move (Go.Operand.tmp 0),type:=26,pos:= "slices.go:485",after:=#[],guard:=none },
 { dst:=some 23,op:=Go.Op.move (Go.Operand.tmp 2),type:=3,pos:= "slices.go:485",after:=#[],guard:=none },
 { dst:=some 24,op:=Go.Op.indexAddr 26 (Go.Operand.tmp 22) (Go.Operand.tmp 23),type:=0,pos:= "slices.go:485",after:=#[{ on:=8,ground:=Go.Ground.data },{ on:=9,ground:=Go.Ground.data }],guard:=none },
 { dst:=some 25,op:=Go.Op.load 28 (Go.Operand.tmp 24),type:=28,pos:= "slices.go:485",after:=#[{ on:=10,ground:=Go.Ground.data }],guard:=none },
 { dst:=some 26,op:=Go.Op.indexAddr 26 (Go.Operand.tmp 14) (Go.Operand.tmp 15),type:=0,pos:= "slices.go:485",after:=#[{ on:=0,ground:=Go.Ground.data },{ on:=1,ground:=Go.Ground.data },{ on:=0,ground:=Go.Ground.phase },{ on:=1,ground:=Go.Ground.phase },{ on:=2,ground:=Go.Ground.textOnly Go.Departure.lateStores },{ on:=3,ground:=Go.Ground.textOnly Go.Departure.lateStores },{ on:=4,ground:=Go.Ground.phase },{ on:=5,ground:=Go.Ground.phase },{ on:=6,ground:=Go.Ground.phase },{ on:=7,ground:=Go.Ground.phase },{ on:=8,ground:=Go.Ground.textOnly Go.Departure.lateStores },{ on:=9,ground:=Go.Ground.textOnly Go.Departure.lateStores },{ on:=10,ground:=Go.Ground.textOnly Go.Departure.lateStoresUnsure },{ on:=11,ground:=Go.Ground.phase }],guard:=none },
 { dst:=none,op:=Go.Op.store 28 (Go.Operand.tmp 26) (Go.Operand.tmp 21),type:=0,pos:= "slices.go:485",after:=#[{ on:=12,ground:=Go.Ground.data },{ on:=7,ground:=Go.Ground.data },{ on:=0,ground:=Go.Ground.phase },{ on:=1,ground:=Go.Ground.phase },{ on:=2,ground:=Go.Ground.textOnly Go.Departure.lateStores },{ on:=3,ground:=Go.Ground.textOnly Go.Departure.lateStores },{ on:=4,ground:=Go.Ground.phase },{ on:=5,ground:=Go.Ground.phase },{ on:=6,ground:=Go.Ground.phase },{ on:=7,ground:=Go.Ground.phase },{ on:=8,ground:=Go.Ground.textOnly Go.Departure.lateStores },{ on:=9,ground:=Go.Ground.textOnly Go.Departure.lateStores },{ on:=10,ground:=Go.Ground.textOnly Go.Departure.lateStoresUnsure },{ on:=11,ground:=Go.Ground.phase }],guard:=none },
 { dst:=some 27,op:=Go.Op.indexAddr 26 (Go.Operand.tmp 16) (Go.Operand.tmp 17),type:=0,pos:= "slices.go:485",after:=#[{ on:=2,ground:=Go.Ground.data },{ on:=3,ground:=Go.Ground.data },{ on:=0,ground:=Go.Ground.phase },{ on:=1,ground:=Go.Ground.phase },{ on:=2,ground:=Go.Ground.phase },{ on:=3,ground:=Go.Ground.phase },{ on:=4,ground:=Go.Ground.phase },{ on:=5,ground:=Go.Ground.phase },{ on:=6,ground:=Go.Ground.phase },{ on:=7,ground:=Go.Ground.phase },{ on:=8,ground:=Go.Ground.phase },{ on:=9,ground:=Go.Ground.phase },{ on:=10,ground:=Go.Ground.phase },{ on:=11,ground:=Go.Ground.phase },{ on:=12,ground:=Go.Ground.phase },{ on:=13,ground:=Go.Ground.phase }],guard:=none },
 { dst:=none,op:=Go.Op.store 28 (Go.Operand.tmp 27) (Go.Operand.tmp 25),type:=0,pos:= "slices.go:485",after:=#[{ on:=14,ground:=Go.Ground.data },{ on:=11,ground:=Go.Ground.data },{ on:=13,ground:=Go.Ground.chain },{ on:=0,ground:=Go.Ground.phase },{ on:=1,ground:=Go.Ground.phase },{ on:=2,ground:=Go.Ground.phase },{ on:=3,ground:=Go.Ground.phase },{ on:=4,ground:=Go.Ground.phase },{ on:=5,ground:=Go.Ground.phase },{ on:=6,ground:=Go.Ground.phase },{ on:=7,ground:=Go.Ground.phase },{ on:=8,ground:=Go.Ground.phase },{ on:=9,ground:=Go.Ground.phase },{ on:=10,ground:=Go.Ground.phase },{ on:=11,ground:=Go.Ground.phase },{ on:=12,ground:=Go.Ground.phase },{ on:=13,ground:=Go.Ground.phase }],guard:=none }]
def rv_F (w0:World) (rb n c i j:Nat) (S:Nat→Prop) (q:Nat→Pl) (xs:List Tm) (x y:Tm):Nat→(Nat→Value)→Value→World→(Nat→Prop)→Prop:=fun rix=>match rix with
 | 0=>fun _ v _ _=>v=.slice (some ⟨rb,0,none⟩) n c
 | 1=>fun _ v _ _=>v=.int .i64 i
 | 2=>fun _ v _ _=>v=.slice (some ⟨rb,0,none⟩) n c
 | 3=>fun _ v _ _=>v=.int .i64 j
 | 4=>fun _ v _ _=>v=.slice (some ⟨rb,0,none⟩) n c
 | 5=>fun _ v _ _=>v=.int .i64 j
 | 6=>fun _ v _ _=>v=.pointer (some ⟨rb,j * 8,none⟩)
 | 7=>fun _ v _ _=>v=tmV (q j) y
 | 8=>fun _ v _ _=>v=.slice (some ⟨rb,0,none⟩) n c
 | 9=>fun _ v _ _=>v=.int .i64 i
 | 10=>fun _ v _ _=>v=.pointer (some ⟨rb,i * 8,none⟩)
 | 11=>fun _ v _ _=>v=tmV (q i) x
 | 12=>fun _ v _ _=>v=.pointer (some ⟨rb,i * 8,none⟩)
 | 13=>fun τ v w O=>TsR w rb S (fun k=>if k=i then q j else q k) (xs.set i y)∧O rb
 | 14=>fun _ v _ _=>v=.pointer (some ⟨rb,j * 8,none⟩)
 | 15=>fun τ v w O=>TsR w rb S (fun k=>if k=j then q i else if k=i then q j else q k) ((xs.set i y).set j x)∧O rb
 | _=>fun _ _ _ _=>True
def rv_C:Nat→List Nat:=fun rix=>match rix with
 | 15=>[13]
 | _=>[]
theorem rv_nw0:nwB rv_ops.toArray 0=true:=by kernel_rfl
theorem rv_nw2:nwB rv_ops.toArray 2=true:=by kernel_rfl
theorem rv_nw3:nwB rv_ops.toArray 3=true:=by kernel_rfl
set_option maxRecDepth 100000 in
set_option maxHeartbeats 8000000 in
theorem rv_obs (w0:World) (rb n c i j:Nat) (S:Nat→Prop) (q:Nat→Pl) (xs:List Tm) (x y:Tm) (h:TsR w0 rb S q xs) (hn:xs.length=n) (hn9:n≤140737488355328) (hc:n≤c∧c≤9223372036854775807) (hi:i<n) (hj:j<n) (hij:i≠j) (hx:xs[i]?=some x) (hy:xs[j]?=some y) (hS:¬ S rb∧∀ k,S k→k<w0.heap.size) (Q:Exit→Act→World→Prop) (a0:Act) (hi0:a0.tmps.getD 0 undef=.slice (some ⟨rb,0,none⟩) n c) (hi2:a0.tmps.getD 2 undef=.int .i64 i) (hi3:a0.tmps.getD 3 undef=.int .i64 j) :
  ObsE Try.prog rv_ops.toArray Q (est2 13 0 (fun k=>k=rb) (fun _=>False)) rv_C (rv_F w0 rb n c i j S q xs x y) a0 w0 rv_ops.toArray.toList 0:=by
 have nw0:=rv_nw0
 have nw2:=rv_nw2
 have nw3:=rv_nw3
 refine ⟨?_,?_,?_,?_,?_,?_,?_,?_,?_,?_,?_,?_,?_,?_,?_,?_,trivial⟩
 ·refine ⟨⟨fun τ=>stableE_det _,leans_not⟩,?_⟩
  intro a w O hk
  have e0:a.eval (.tmp 0)=.slice (some ⟨rb,0,none⟩) n c:=(hk.init 0 (initialB_of_nw nw0)).trans hi0
  exact toE (ob_move rfl e0 (wanted_none rfl) rfl)
 ·refine ⟨⟨fun τ=>stableE_det _,leans_not⟩,?_⟩
  intro a w O hk
  have e2:a.eval (.tmp 2)=.int .i64 i:=(hk.init 2 (initialB_of_nw nw2)).trans hi2
  exact toE (ob_move rfl e2 (wanted_none rfl) rfl)
 ·refine ⟨⟨fun τ=>stableE_det _,leans_not⟩,?_⟩
  intro a w O hk
  have e0:a.eval (.tmp 0)=.slice (some ⟨rb,0,none⟩) n c:=(hk.init 0 (initialB_of_nw nw0)).trans hi0
  exact toE (ob_move rfl e0 (wanted_none rfl) rfl)
 ·refine ⟨⟨fun τ=>stableE_det _,leans_not⟩,?_⟩
  intro a w O hk
  have e3:a.eval (.tmp 3)=.int .i64 j:=(hk.init 3 (initialB_of_nw nw3)).trans hi3
  exact toE (ob_move rfl e3 (wanted_none rfl) rfl)
 ·refine ⟨⟨fun τ=>stableE_det _,leans_not⟩,?_⟩
  intro a w O hk
  have e0:a.eval (.tmp 0)=.slice (some ⟨rb,0,none⟩) n c:=(hk.init 0 (initialB_of_nw nw0)).trans hi0
  exact toE (ob_move rfl e0 (wanted_none rfl) rfl)
 ·refine ⟨⟨fun τ=>stableE_det _,leans_not⟩,?_⟩
  intro a w O hk
  have e3:a.eval (.tmp 3)=.int .i64 j:=(hk.init 3 (initialB_of_nw nw3)).trans hi3
  exact toE (ob_move rfl e3 (wanted_none rfl) rfl)
 ·refine ⟨⟨fun τ=>stableE_det _,leans_not⟩,?_⟩
  intro a w O hk
  have e18:a.eval (.tmp 18)=.slice (some ⟨rb,0,none⟩) n c:=hk.fact 4 _ 18 rfl rfl rfl rfl
  have e19:a.eval (.tmp 19)=.int .i64 j:=hk.fact 5 _ 19 rfl rfl rfl rfl
  exact obE_run (wanted_none rfl) (by unfold execOp;simp only [];rw [e18,e19];go_simp) rfl
 ·refine ⟨⟨fun τ=>stableE_det _,leans_not⟩,?_⟩
  intro a w O hk
  have e20:a.eval (.tmp 20)=.pointer (some ⟨rb,j * 8,none⟩):=hk.fact 6 _ 20 rfl rfl rfl rfl
  have hr:=h.same (w':=w) (hk.est 13 _ rfl (.inr rfl) rb (.inl ⟨rfl,rfl⟩)) (fun k hk' hz=>hk.fix k (est2_fix hz (fun e=>hS.1 (e ▸ hk')) (fun e=>e.elim)))
  exact obE_loadMid rfl e20 (hr.cells j y hy) (wanted_none rfl) rfl
 ·refine ⟨⟨fun τ=>stableE_det _,leans_not⟩,?_⟩
  intro a w O hk
  have e0:a.eval (.tmp 0)=.slice (some ⟨rb,0,none⟩) n c:=(hk.init 0 (initialB_of_nw nw0)).trans hi0
  exact toE (ob_move rfl e0 (wanted_none rfl) rfl)
 ·refine ⟨⟨fun τ=>stableE_det _,leans_not⟩,?_⟩
  intro a w O hk
  have e2:a.eval (.tmp 2)=.int .i64 i:=(hk.init 2 (initialB_of_nw nw2)).trans hi2
  exact toE (ob_move rfl e2 (wanted_none rfl) rfl)
 ·refine ⟨⟨fun τ=>stableE_det _,leans_not⟩,?_⟩
  intro a w O hk
  have e22:a.eval (.tmp 22)=.slice (some ⟨rb,0,none⟩) n c:=hk.fact 8 _ 22 rfl rfl rfl rfl
  have e23:a.eval (.tmp 23)=.int .i64 i:=hk.fact 9 _ 23 rfl rfl rfl rfl
  exact obE_run (wanted_none rfl) (by unfold execOp;simp only [];rw [e22,e23];go_simp) rfl
 ·refine ⟨⟨fun τ=>stableE_det _,leans_not⟩,?_⟩
  intro a w O hk
  have e24:a.eval (.tmp 24)=.pointer (some ⟨rb,i * 8,none⟩):=hk.fact 10 _ 24 rfl rfl rfl rfl
  have hr:=h.same (w':=w) (hk.est 13 _ rfl (.inr rfl) rb (.inl ⟨rfl,rfl⟩)) (fun k hk' hz=>hk.fix k (est2_fix hz (fun e=>hS.1 (e ▸ hk')) (fun e=>e.elim)))
  exact obE_loadMid rfl e24 (hr.cells i x hx) (wanted_none rfl) rfl
 ·refine ⟨⟨fun τ=>stableE_det _,leans_not⟩,?_⟩
  intro a w O hk
  have e14:a.eval (.tmp 14)=.slice (some ⟨rb,0,none⟩) n c:=hk.fact 0 _ 14 rfl rfl rfl rfl
  have e15:a.eval (.tmp 15)=.int .i64 i:=hk.fact 1 _ 15 rfl rfl rfl rfl
  exact obE_run (wanted_none rfl) (by unfold execOp;simp only [];rw [e14,e15];go_simp) rfl
 ·refine ⟨⟨fun τ=>(fun v w w' O h hz hk=>⟨h.1.same (hk rb h.1.lt (.inr h.2)) (fun k hs hk'=>hk k hk' (.inl (est2_fix (hS.2 k hs) (fun e=>hS.1 (e ▸ hs)) (fun e=>e.elim)))),h.2⟩),leans_not⟩,?_⟩
  intro a w O hk
  have e26:a.eval (.tmp 26)=.pointer (some ⟨rb,i * 8,none⟩):=hk.fact 12 _ 26 rfl rfl rfl rfl
  have e21:a.eval (.tmp 21)=tmV (q j) y:=hk.fact 7 _ 21 rfl rfl rfl rfl
  have hr:=h.same (w':=w) (hk.est 13 _ rfl (.inl rfl) rb (.inl ⟨rfl,rfl⟩)) (fun k hk' hz=>hk.fix k (est2_fix hz (fun e=>hS.1 (e ▸ hk')) (fun e=>e.elim)))
  exact obE_tsPut rfl (wanted_none rfl) e26 e21 hr (by omega) hS.1 (hr.tms j y hy) (.inr (.inl ⟨rfl,rfl⟩)) rfl rfl
 ·refine ⟨⟨fun τ=>stableE_det _,leans_not⟩,?_⟩
  intro a w O hk
  have e16:a.eval (.tmp 16)=.slice (some ⟨rb,0,none⟩) n c:=hk.fact 2 _ 16 rfl rfl rfl rfl
  have e17:a.eval (.tmp 17)=.int .i64 j:=hk.fact 3 _ 17 rfl rfl rfl rfl
  exact obE_run (wanted_none rfl) (by unfold execOp;simp only [];rw [e16,e17];go_simp) rfl
 ·refine ⟨⟨fun τ=>(fun v w w' O h hz hk=>⟨h.1.same (hk rb h.1.lt (.inr h.2)) (fun k hs hk'=>hk k hk' (.inl (est2_fix (hS.2 k hs) (fun e=>hS.1 (e ▸ hs)) (fun e=>e.elim)))),h.2⟩),leans_not⟩,?_⟩
  intro a w O hk
  have e27:a.eval (.tmp 27)=.pointer (some ⟨rb,j * 8,none⟩):=hk.fact 14 _ 27 rfl rfl rfl rfl
  have e25:a.eval (.tmp 25)=tmV (q i) x:=hk.fact 11 _ 25 rfl rfl rfl rfl
  obtain ⟨v13,hr,ho⟩:=hk.nofact 13 _ rfl rfl rfl rfl
  exact obE_tsPut rfl (wanted_none rfl) e27 e25 hr (by rw [List.length_set];omega) hS.1 (by have:=hr.tms i y (by rw [List.getElem?_set,if_pos rfl,if_pos (by omega)]);exact (h.tms i x hx).same fun k hk' hz=>hk.fix k (est2_fix hz (fun e=>hS.1 (e ▸ hk')) (fun e=>e.elim))) (.inl ⟨13,by simp [rv_C],ho⟩) rfl rfl
set_option maxRecDepth 100000 in
set_option maxHeartbeats 8000000 in
theorem rv_region {Q:Exit→Act→World→Prop} {id:Nat} (w0:World) (rb n c i j:Nat) (S:Nat→Prop) (q:Nat→Pl) (xs:List Tm) (x y:Tm) {s1 s4 s5 s6 s7 s8 s9 s10 s11 s12 s13 s14 s15 s16 s17 s18 s19 s20 s21 s22 s23 s24 s25 s26 s27:Value} (h:TsR w0 rb S q xs) (hn:xs.length=n) (hn9:n≤140737488355328) (hc:n≤c∧c≤9223372036854775807) (hi:i<n) (hj:j<n) (hij:i≠j) (hx:xs[i]?=some x) (hy:xs[j]?=some y) (hS:¬ S rb∧∀ k,S k→k<w0.heap.size)
  (hend:∀ (w':World) (v15:Value) (O15:Nat→Prop),Chg (fun k=>(fun k=>k=rb) k∨(fun _=>False) k) w0 w'→(TsR w' rb S (fun k=>if k=j then q i else if k=i then q j else q k) ((xs.set i y).set j x)∧O15 rb)→(∀ k,O15 k→k<w'.heap.size∧¬ Fix w0 (est2 13 0 (fun k=>k=rb) (fun _=>False)) k)→Q .normal { tmps:=((.slice (some ⟨rb,0,none⟩) n c) :: s1 :: (.int .i64 i) :: (.int .i64 j) :: s4 :: s5 :: s6 :: s7 :: s8 :: s9 :: s10 :: s11 :: s12 :: s13 :: (.slice (some ⟨rb,0,none⟩) n c) :: (.int .i64 i) :: (.slice (some ⟨rb,0,none⟩) n c) :: (.int .i64 j) :: (.slice (some ⟨rb,0,none⟩) n c) :: (.int .i64 j) :: (.pointer (some ⟨rb,j * 8,none⟩)) :: (tmV (q j) y) :: (.slice (some ⟨rb,0,none⟩) n c) :: (.int .i64 i) :: (.pointer (some ⟨rb,i * 8,none⟩)) :: (tmV (q i) x) :: (.pointer (some ⟨rb,i * 8,none⟩)) :: (.pointer (some ⟨rb,j * 8,none⟩)) :: []:List Value).toArray,defers:=[] } w') :
  (Code.region id rv_ops.toArray true).wp Try.prog Q { tmps:=((.slice (some ⟨rb,0,none⟩) n c) :: s1 :: (.int .i64 i) :: (.int .i64 j) :: s4 :: s5 :: s6 :: s7 :: s8 :: s9 :: s10 :: s11 :: s12 :: s13 :: s14 :: s15 :: s16 :: s17 :: s18 :: s19 :: s20 :: s21 :: s22 :: s23 :: s24 :: s25 :: s26 :: s27 :: []:List Value).toArray,defers:=[] } w0:=by
 refine wp_region_est (by kernel_rfl) (est2 13 0 (fun k=>k=rb) (fun _=>False)) rv_C (rv_F w0 rb n c i j S q xs x y) (est2_dis (fun _ _ h=>h)) (est2_range (fun k hk=>hk ▸ h.lt) (fun _ h=>h.elim)) (by rfl) (by kernel_rfl) (rv_obs w0.drew rb n c i j S q xs x y (h.same rfl fun _ _ _=>rfl) hn hn9 hc hi hj hij hx hy hS _ _ rfl rfl rfl) ?_
 intro a w' O hd hs hb hf hf2 ha hsame
 have hl:=slots_eq (ops:=rv_ops.toArray) [(14,.slice (some ⟨rb,0,none⟩) n c),(15,.int .i64 i),(16,.slice (some ⟨rb,0,none⟩) n c),(17,.int .i64 j),(18,.slice (some ⟨rb,0,none⟩) n c),(19,.int .i64 j),(20,.pointer (some ⟨rb,j * 8,none⟩)),(21,tmV (q j) y),(22,.slice (some ⟨rb,0,none⟩) n c),(23,.int .i64 i),(24,.pointer (some ⟨rb,i * 8,none⟩)),(25,tmV (q i) x),(26,.pointer (some ⟨rb,i * 8,none⟩)),(27,.pointer (some ⟨rb,j * 8,none⟩))] (show a.tmps.size=28 from hs) (fun i h=>hsame i h) ⟨(hf 0 _ 14 rfl rfl (by decide)).1,(hf 1 _ 15 rfl rfl (by decide)).1,(hf 2 _ 16 rfl rfl (by decide)).1,(hf 3 _ 17 rfl rfl (by decide)).1,(hf 4 _ 18 rfl rfl (by decide)).1,(hf 5 _ 19 rfl rfl (by decide)).1,(hf 6 _ 20 rfl rfl (by decide)).1,(hf 7 _ 21 rfl rfl (by decide)).1,(hf 8 _ 22 rfl rfl (by decide)).1,(hf 9 _ 23 rfl rfl (by decide)).1,(hf 10 _ 24 rfl rfl (by decide)).1,(hf 11 _ 25 rfl rfl (by decide)).1,(hf 12 _ 26 rfl rfl (by decide)).1,(hf 14 _ 27 rfl rfl (by decide)).1,trivial⟩ (by kernel_rfl)
 obtain ⟨tmps,defers⟩:=a
 obtain rfl:defers=[]:=hd
 have hl':tmps=_:=hl
 rw [hl']
 obtain ⟨⟨v15,hv15⟩,ho15⟩:=hf2 15 _ rfl rfl (by decide)
 have hb':=est2_chg hb
 refine Eq.mp ?_ (hend w' v15 (O 15) ⟨hb'.os,hb'.tape,hb'.output,hb'.size,hb'.block⟩ hv15 ho15)
 kernel_rfl

theorem results_nil0 {fn:Func} (h:fn.results = #[]) (tmps:Array Value) (P:Program) (w:World):(results fn tmps).run P w=.ok (.tuple #[]) w:=by simp [results,h]
theorem rev_none (A:Option Addr) (c:Nat) (w:World):Calls Try.prog 76 #[.slice A 0 c] w fun e w'=>e=.returned (.tuple #[])∧Below w.heap.size w w':=by
 go_enter Try.func76,Try.ntmps76
 go_wp2
 go_loopw [2,3] (fun i j wr=>i=.int .i64 0∧j=.int .i64 (-1)∧wr=w) (fun _ _ _=>0)
 case atStart=>exact ⟨rfl,rfl,rfl⟩
 case round =>
  obtain ⟨rfl,rfl,rfl⟩:=hrel
  go_wp2
  exact bodyPost_end (results_nil0 rfl _ _ _) rfl ⟨rfl,Below.refl _ _⟩
set_option maxRecDepth 100000 in
set_option maxHeartbeats 4000000 in
theorem rev_calls (rb n c:Nat) (S:Nat→Prop) (q:Nat→Pl) (xs:List Tm) (w:World) (h:TsR w rb S q xs) (hn:xs.length=n) (h1:1≤n) (hn9:n≤140737488355328) (hc:n≤c∧c≤9223372036854775807) (hS:¬ S rb∧∀ k,S k→k<w.heap.size) :
  Calls Try.prog 76 #[.slice (some ⟨rb,0,none⟩) n c] w fun e w'=>e=.returned (.tuple #[])∧(∃ q',TsR w' rb S q' xs.reverse)∧Chg (fun k=>k=rb) w w':=by
 have H:=Ak h
 have HN:=Ak hn
 have HSS:=Ak hS
 have hw1:wrap64 ((n:Int) - 1)=(n:Int) - 1:=by unfold wrap64;omega
 have hrz:=h.lt
 clear h hn hS
 go_enter Try.func76,Try.ntmps76
 go_wp2
 go_loopw [2,3] (fun i j wr=>∃ (k m:Nat),i=.int .i64 k∧j=.int .i64 m∧k+m+1=n∧k≤m+1∧Aside0 (∃ q',TsR wr rb S q' (revK xs k))∧Aside0 (Chg (fun k=>k=rb) w wr)) (fun i _ _=>n - (intOf i).toNat)
 case atStart=>exact ⟨0,n - 1,rfl,by congr 1;omega,by omega,by omega,⟨⟨q,by rw [revK_0];exact H.out⟩⟩,⟨Chg.refl _ _⟩⟩
 case round =>
  obtain ⟨k,m,rfl,rfl,hkm,hle,HR,HC⟩:=hrel
  by_cases hlt:k<m
  ·have hm':xs.length - 1 - k=m:=by have:=HN.out;omega
   have HAT:=Ak (revK_at (xs:=xs) (k:=k) (by have:=HN.out;omega))
   have HST:=Ak (revK_step (xs:=xs) (k:=k) (by have:=HN.out;omega))
   have HHM:=Ak hm'
   rw [hm'] at HAT HST
   obtain ⟨x,hx⟩:∃ x,xs.getD k default=x:=⟨_,rfl⟩
   obtain ⟨y,hy⟩:∃ y,xs.getD m default=y:=⟨_,rfl⟩
   rw [hx,hy] at HAT HST
   have HLN:=Ak (show (revK xs k).length=n by rw [revK_len,HN.out])
   clear hm' hx hy
   go_upto_block 1 with (fail)
   go_cut [] (fun w5=>Aside0 (∃ q',TsR w5 rb S q' (revK xs (k+1)))∧Aside0 (Chg (fun k=>k=rb) w w5))
   case first =>
    obtain ⟨q',hq'⟩:=HR.out
    go_upto_region 3 with (fail)
    refine rv_region wr rb n c k m S q' (revK xs k) x y hq' HLN.out hn9 hc (by omega) (by omega) (by omega) HAT.out.1 HAT.out.2 ⟨HSS.out.1,fun j hj=>Nat.lt_of_lt_of_le (HSS.out.2 j hj) HC.out.size⟩ ?_
    intros
    rename_i hch h15 _
    rw [HST.out] at h15
    have HF:=Ak h15.1
    have HCH:=Ak hch
    clear h15 hch
    go_wp2
    go_meet
    case rel=>exact ⟨⟨_,HF.out⟩,⟨chg_trans HC.out (HCH.out.mono fun j e=>e.elim id False.elim)⟩⟩
   case rest =>
    clear HR HC
    obtain ⟨HR,HC⟩:=hcut
    go_wp2
    go_roundw
    case rel=>exact ⟨k+1,m - 1,by go_num,by congr 1;omega,by omega,by omega,HR,HC⟩
    case measure=>(simp [intOf];try omega)
  ·have HFI:=Ak (revK_all (xs:=xs) (k:=k) (by have:=HN.out;omega))
   have hlt':decide ((k:Int)<(m:Int))=false:=by simp;omega
   go_wp2
   rw [HFI.out] at HR
   exact bodyPost_end (results_nil0 rfl _ _ _) rfl ⟨rfl,HR.out,HC.out⟩

end Go.Proofs.Ytdboloabpjmgaaa

namespace Go.Proofs.Ytdboloabpjmgaaa
open Go.RowKit Go.Proofs.YtdboloabpjmgaaaW.PrintWords Go.RegionInvYtdboloabpjmgaaa Go.RegionEYtdboloabpjmgaaa

def kidD (t:Tm) (i:Nat):Tm:=t.kids.getD i default
theorem app_two {t:Tm} (h:t.kind=6∧nK t≠0):nK t=2:=by
 have h1:(nK t:Int)=arZ t.kind:=by
  have h2:=h.2
  unfold nK at h2 ⊢
  split at h2
  ·exact absurd rfl h2
  ·rename_i hh
   rw [if_neg hh]
   have:=arZ_in t.kind
   omega
 rw [h.1] at h1
 have:arZ 6=2:=rfl
 omega
theorem kidD_eq {t:Tm} {i:Nat} (h:i<nK t):kidD t i=kidF t ⟨i,h⟩:=by
 unfold kidD
 rw [List.getD_eq_getElem?_getD,kidF_get t ⟨i,h⟩]
 rfl
theorem app_kid {t:Tm} (h:t.kind=6∧nK t≠0) {i:Nat} (hi:i<2):t.kids[i]?=some (kidD t i)∧SizeOf.sizeOf (kidD t i)<SizeOf.sizeOf t∧depthT (kidD t i)+1≤depthT t∧sizeT (kidD t i)+1≤sizeT t:=by
 have h2:i<nK t:=by rw [app_two h];exact hi
 rw [kidD_eq h2]
 refine ⟨kidF_get t ⟨i,h2⟩,kidF_lt t ⟨i,h2⟩,?_,?_⟩
 ·have:=depth_kid t ⟨i,h2⟩;omega
 ·exact size_kid t ⟨i,h2⟩
def spH (t:Tm):Tm:=if h:t.kind=6∧nK t≠0 then spH (kidD t 0) else t
termination_by SizeOf.sizeOf t
decreasing_by exact (app_kid h (by decide)).2.1
def spA (t:Tm):List Tm:=if h:t.kind=6∧nK t≠0 then spA (kidD t 0) ++ [kidD t 1] else []
termination_by SizeOf.sizeOf t
decreasing_by exact (app_kid h (by decide)).2.1
theorem spH_app {t:Tm} (h:t.kind=6∧nK t≠0):spH t=spH (kidD t 0):=by rw [spH,dif_pos h]
theorem spA_app {t:Tm} (h:t.kind=6∧nK t≠0):spA t=spA (kidD t 0) ++ [kidD t 1]:=by rw [spA,dif_pos h]
theorem spH_end {t:Tm} (h:¬ (t.kind=6∧nK t≠0)):spH t=t:=by rw [spH,dif_neg h]
theorem spA_end {t:Tm} (h:¬ (t.kind=6∧nK t≠0)):spA t=[]:=by rw [spA,dif_neg h]
def TmsS (w:World) (S:Nat→Prop) (A:Option Addr) (q:Nat→Pl) (xs:List Tm):Prop:=∀ (i:Nat) (x:Tm),xs[i]?=some x→KidAt w S A i (q i) x∧TmS w S (q i) x
theorem TmsS.nil (w:World) (S:Nat→Prop) (A:Option Addr) (q:Nat→Pl):TmsS w S A q []:=fun i x h=>by simp at h
theorem TmsS.same {w w':World} {S:Nat→Prop} {A:Option Addr} {q:Nat→Pl} {xs:List Tm} (h:TmsS w S A q xs) (hs:∀ k,S k→k<w.heap.size→w'.heap[k]?=w.heap[k]?):TmsS w' S A q xs:=
 fun i x hx=>⟨(h i x hx).1.same hs,(h i x hx).2.same hs⟩
theorem TmsS.mono {w:World} {S S':Nat→Prop} {A:Option Addr} {q:Nat→Pl} {xs:List Tm} (h:TmsS w S A q xs) (hs:∀ k,S k→k<w.heap.size→S' k):TmsS w S' A q xs:=
 fun i x hx=>⟨(h i x hx).1.mono hs,(h i x hx).2.mono hs⟩
theorem TsR.tmss {w:World} {rb:Nat} {S S':Nat→Prop} {q:Nat→Pl} {xs:List Tm} (h:TsR w rb S q xs) (hS:∀ k,S k→S' k) (hr:S' rb):TmsS w S' (some ⟨rb,0,none⟩) q xs:=
 fun i x hx=>⟨⟨rb,0,rfl,hr,fun j v hv=>by rw [Nat.zero_add];exact h.cells i x hx j v hv⟩,(h.tms i x hx).mono fun k hk _=>hS k hk⟩
def SpGot (w:World) (S:Nat→Prop) (h:Tm) (xs:List Tm) (e:Ending) (w':World):Prop:=∃ p A n c q,e=.returned (.tuple #[tmV p h,.slice A n c])∧n=xs.length∧TmS w' (fun k=>S k∨w.heap.size≤k) p h∧TmsS w' (fun k=>S k∨w.heap.size≤k) A q xs∧Below w.heap.size w w'
def slN:Value→Nat
 | .slice _ n _=>n
 | _=>0
theorem KidsT.row {w:World} {S:Nat→Prop} {lo g n c:Nat} {xs:List Tm} (h:KidsT w S lo (.slice (some ⟨g,0,none⟩) n c) xs):lo≤g∧g<w.heap.size∧∃ q,TsR w g (fun k=>S k∨(lo≤k∧k≠g)) q xs:=by
 obtain ⟨cells,q,ho,hk⟩:=h
 have hlo:=own_base ho g rfl
 have hlt:=own_lt ho g rfl
 obtain ⟨hlen,h1 | ⟨g',cap',cur,e1,hbg,hcur,hn,hm',hsz,htk⟩⟩:=ho
 ·exact absurd h1.1 (by simp)
 ·obtain rfl:g=g':=by simp only [Value.slice.injEq,Option.some.injEq,Addr.mk.injEq] at e1;exact e1.1.1
  refine ⟨hlo,hlt,q,⟨cur,hcur,by rw [hsz];exact Nat.mul_le_mul_right 8 hn⟩,fun i x hx j v hv=>?_,fun i x hx=>(hk i x hx).2.mono fun k hs _=>hs.imp id fun h=>⟨h.1,fun e=>h.2 (by rw [e];rfl)⟩⟩
  have:=(hk i x hx).1 j v hv
  rw [← htk,List.getElem?_take] at this
  split at this
  ·rw [cell_of_row _ _ _ _ _ _ hcur,← Array.getElem?_toList];exact this
  ·simp at this
theorem KidsT.len {w:World} {S:Nat→Prop} {lo:Nat} {V:Value} {xs:List Tm} (h:KidsT w S lo V xs):∃ A c,V=.slice A xs.length c∧xs.length≤c∧c≤9223372036854775807∧(xs≠[]→∃ g,A=some ⟨g,0,none⟩):=by
 obtain ⟨cells,q,ho,hk⟩:=h
 obtain ⟨K,e,rfl⟩:=own_slice ho
 refine ⟨K,e,rfl,own_cap ho,own_max ho,fun hne=>?_⟩
 have hpos:0<xs.length:=by cases xs with
  | nil=>exact absurd rfl hne
  | cons x r=>simp
 obtain ⟨g,cap,hv,hb,_⟩:=ho.form hpos
 simp only [Value.slice.injEq] at hv
 exact ⟨g,hv.1⟩
end Go.Proofs.Ytdboloabpjmgaaa

namespace Go.Proofs.Ytdboloabpjmgaaa
open Go.RowKit Go.Proofs.YtdboloabpjmgaaaW.PrintWords Go.RegionInvYtdboloabpjmgaaa Go.RegionEYtdboloabpjmgaaa

structure SpB (w wr:World) (S:Nat→Prop) (t:Tm) (p':Pl) (t':Tm):Prop where
 box:wr.heap[w.heap.size]?=some (tmO p' t')
 tm:TmS wr S p' t'
 res:wr.heap[w.heap.size+1]?=some (outK 0 (.slice none 0 0))
 bel:Below w.heap.size w wr
 hd:spH t'=spH t
theorem SpB.later {w wr W:World} {S:Nat→Prop} {t:Tm} {p':Pl} {t':Tm} (h:SpB w wr S t p' t') (hS:∀ k,S k→k<w.heap.size) (hb:Below wr.heap.size wr W):SpB w W S t p' t':=
 ⟨(hb.block _ (blk_lt h.box)).trans h.box,h.tm.later hb,(hb.block _ (blk_lt h.res)).trans h.res,below_then h.bel h.bel.size hb,h.hd⟩
theorem SpB.grown {w wr W:World} {S:Nat→Prop} {t:Tm} {p':Pl} {t':Tm} {row:Option Nat} (h:SpB w wr S t p' t') (hS:∀ k,S k→k<w.heap.size) (hg:wr.grownBy W row) (hr:∀ k,row=some k→w.heap.size+2≤k):SpB w W S t p' t':=
 ⟨(hg.block _ (blk_lt h.box) (fun e=>by have:=hr _ e.symm;omega)).trans h.box,h.tm.same fun k hk hz=>hg.block k hz (fun e=>by have:=hr _ e.symm;have:=hS k hk;omega),(hg.block _ (blk_lt h.res) (fun e=>by have:=hr _ e.symm;omega)).trans h.res,
  ⟨hg.os.trans h.bel.os,hg.tape.trans h.bel.tape,hg.output.trans h.bel.output,Nat.le_trans h.bel.size hg.size,fun k hk=>(hg.block k (by have:=h.bel.size;omega) (fun e=>by have:=hr _ e.symm;omega)).trans (h.bel.block k hk)⟩,h.hd⟩
theorem revS_calls (S:Nat→Prop) (lo:Nat) (V:Value) (xs:List Tm) (w:World) (h:KidsT w S lo V xs) (hS:∀ k,S k→k<lo) (hlo:lo≤w.heap.size) (hl:xs.length≤1000000) :
  Calls Try.prog 76 #[V] w fun e w'=>e=.returned (.tuple #[])∧Below lo w w'∧∃ A c q',V=.slice A xs.length c∧TmsS w' (fun k=>S k∨lo≤k) A q' xs.reverse:=by
 obtain ⟨A,c,rfl,hc,hm,hne⟩:=h.len
 by_cases h0:xs=[]
 ·subst h0
  exact (rev_none A c w).mono fun e w' h=>⟨h.1,h.2.mono hlo,A,c,fun _=>default,rfl,TmsS.nil _ _ _ _⟩
 ·obtain ⟨g,rfl⟩:=hne h0
  obtain ⟨hg,hgz,q,hr⟩:=h.row
  have hpos:1≤xs.length:=by cases xs with
   | nil=>exact absurd rfl h0
   | cons x r=>simp
  have hr2:TsR w g (fun k=>(S k∨(lo≤k∧k≠g))∧k<w.heap.size) q xs:=hr.mono fun k hk hz=>⟨hk,hz⟩
  refine (rev_calls g xs.length c _ q xs w hr2 rfl hpos (by omega) ⟨hc,hm⟩ ⟨fun h=>h.1.elim (fun h=>by have:=hS g h;omega) fun h=>h.2 rfl,fun k hk=>hk.2⟩).mono ?_
  rintro e w' ⟨he,⟨q',hq'⟩,hch⟩
  exact ⟨he,⟨hch.os,hch.tape,hch.output,hch.size,fun k hk=>hch.block k (by omega) (by omega)⟩,_,c,q',rfl,hq'.tmss (fun k hk=>hk.1.imp id And.left) (.inr hg)⟩
set_option maxRecDepth 100000 in
set_option maxHeartbeats 8000000 in
theorem spine_calls (S:Nat→Prop) (g0:Nat) (hS:∀ k,S k→k<g0) (t:Tm) (p:Pl) (w:World) (hok:okT t) (hg0:g0≤w.heap.size) (hin:TmS w S p t) :
  Calls Try.prog 34 #[tmV p t] w (SpGot w S (ownT (spH t)) ((spA t).map ownT)):=by
 obtain ⟨W,hW⟩:∃ W,W=(w.alloc (tmO p t)).alloc (outK 0 (.slice none 0 0)):=⟨_,rfl⟩
 have hb:Below w.heap.size w W:=by rw [hW];exact below_alloc (below_alloc (Below.refl _ _) _) _
 have HX:=Ak (show W.heap[w.heap.size]?=some (tmO p t) by rw [hW];exact box0 w _ _)
 have HX1:=Ak (show W.heap[w.heap.size+1]?=some (outK 0 (.slice none 0 0)) by rw [hW];exact box1 w _ _)
 have HZ:=Ak (show W.heap.size=w.heap.size+2 by rw [hW];simp)
 have HB:=Ak hb
 have HIN:=Ak (TmS.stay hin hS (hb.mono hg0))
 have HSS:=Ak hS
 have HSW:=Ak (show ∀ k,S k→k<w.heap.size from fun k h=>Nat.lt_of_lt_of_le (hS k h) hg0)
 have HG:=Ak (show greatB t=false by rw [great_eq];simp [hok])
 have HDP:=Ak hok.2
 have HT0:=Ak (rfl:t=t)
 clear hin hb hS hok
 unfold tmV
 unfold tmO at hW
 go_enter Try.func34,Try.ntmps34
 go_upto_region 1 with (fail)
 rw [← hW]
 clear hW
 go_upto_region 3 with (first
  | (refine wpList_load_row rfl 28 _ rfl (w.heap.size) rfl 28 _ (0,0) _ HX.out Try.underlying28 rfl (by kernel_rfl) ?_)
  | (go_at_call 55;go_must (refine (great_calls t p W (TmS.all HIN.out)).mono ?_;rintro e w2 ⟨rfl,hb⟩;rw [HG.out];have HST0:=Ak (show SpB w w2 S t p t from ⟨(hb.block _ (blk_lt HX.out)).trans HX.out,TmS.stay HIN.out HSS.out (hb.mono (Nat.le_trans hg0 HB.out.size)),(hb.block _ (blk_lt HX1.out)).trans HX1.out,below_then HB.out HB.out.size hb,rfl⟩);have HZ2:=Ak (show w.heap.size+2≤w2.heap.size by have:=hb.size;have:=HZ.out;omega);clear hb)))
 clear HX HX1 HIN HB HZ HG
 go_upto_block 0 with (fail)
 go_cut [4] (fun V wr=>∃ (p':Pl) (L:List Tm),Aside0 (SpB w wr S t p' (spH t))∧Aside0 (L.reverse=spA t)∧L.length≤2000∧Aside0 (KidsT wr S (w.heap.size+2) V (L.map ownT))∧w.heap.size+2≤wr.heap.size)
 case first =>
  go_wp2
  go_loopw [4] (fun V wr=>∃ (t':Tm) (p':Pl) (L:List Tm),Aside0 (spA t' ++ L.reverse=spA t)∧Aside0 (SpB w wr S t p' t')∧Aside0 (L.length+depthT t'≤depthT t)∧Aside0 (KidsT wr S (w.heap.size+2) V (L.map ownT))∧w.heap.size+2≤wr.heap.size) (fun V _=>2001 - slN V)
  case atStart=>exact ⟨t,p,[],⟨by simp⟩,HST0,⟨by simp⟩,⟨KidsT.nil _ _ _⟩,HZ2.out⟩
  case round =>
   clear HST0 HZ2
   obtain ⟨t',p',L,HA,HST,HD,HK,hzw⟩:=hrel
   obtain ⟨AV,cV,rfl,hnc,-,-⟩:=HK.out.len
   obtain ⟨nV,hnV⟩:∃ n,(L.map ownT).length=n:=⟨_,rfl⟩
   rw [hnV] at HK hnc ⊢
   have HNV:=Ak hnV
   clear hnV
   obtain ⟨c0,c1,c2,c3,c4,c5,c6,c7⟩:=row8 HST.out.box
   have hkl:=HST.out.tm.len
   have hll:=HST.out.tm.lv.len
   have hln:=HST.out.tm.ls.len
   by_cases hk:t'.kind=6
   ·have b6:(t'.kind == 6)=true:=by simp [hk]
    have HKK:=Ak hk
    clear hk
    by_cases h0:nK t'=0
    ·have HLF:=Ak (show leafT t'=true from decide_eq_true h0)
     have HNO:=Ak (show ¬ (t'.kind=6∧nK t'≠0) from fun h=>h.2 h0)
     clear h0
     go_wp2_with (go_at_call 75;go_must (refine (leaf_calls t' p' _).mono ?_;rintro e w3 ⟨rfl,hb⟩;rw [HLF.out];have HST3:=Ak (HST.out.later HSW.out hb);have HK3:=Ak (HK.out.later hb);have hz3:=hb.size;clear hb))
     go_meet
     case rel =>
      have hE:=spH_end HNO.out
      have hEA:=spA_end HNO.out
      have hA:=HA.out
      rw [hEA,List.nil_append] at hA
      have hst:=HST3.out
      refine ⟨p',L,⟨?_⟩,⟨hA⟩,?_,HK3,by omega⟩
      ·have hh:=hst.hd
       rw [hE] at hh
       rw [← hh]
       exact hst
      ·have:=HD.out;have:=HDP.out;omega
    ·have HLF:=Ak (show leafT t'=false from decide_eq_false h0)
     have HAP:=Ak (show t'.kind=6∧nK t'≠0 from ⟨HKK.out,h0⟩)
     clear h0
     go_upto_if 15 with (go_at_call 75;go_must (refine (leaf_calls t' p' _).mono ?_;rintro e w3 ⟨rfl,hb⟩;rw [HLF.out];have HST3:=Ak (HST.out.later HSW.out hb);have HK3:=Ak (HK.out.later hb);have hz3:=hb.size;clear hb))
     obtain ⟨k0,z0,-,-⟩:=app_kid HAP.out (i:=0) (by decide)
     obtain ⟨k1,z1,-,-⟩:=app_kid HAP.out (i:=1) (by decide)
     have HD0:=Ak ((app_kid HAP.out (i:=0) (by decide)).2.2.1)
     have HE0:=Ak (spH_app HAP.out)
     have HEA:=Ak (spA_app HAP.out)
     obtain ⟨x0,hx0⟩:∃ x,kidD t' 0=x:=⟨_,rfl⟩
     obtain ⟨x1,hx1⟩:∃ x,kidD t' 1=x:=⟨_,rfl⟩
     rw [hx0] at k0 HD0 HE0 HEA
     rw [hx1] at k1 HEA
     have h2l:2≤t'.kids.length:=by have:=(List.getElem?_eq_some_iff.1 k1).1;omega
     obtain ⟨m,hm⟩:∃ m,t'.kids.length=m:=⟨_,rfl⟩
     rw [hm] at c7 hkl h2l
     have HMM:=Ak hm
     have HK0:=Ak k0
     have HK1:=Ak k1
     clear hm hx0 hx1 k0 k1 z0 z1
     obtain ⟨qk,hqk⟩:=HST3.out.tm.kid
     obtain ⟨⟨bk,oo,hpK,hSb,hcells⟩,h1in⟩:=hqk 1 x1 HK1.out
     obtain ⟨⟨bk',oo',hpK',-,hcells0⟩,h0in⟩:=hqk 0 x0 HK0.out
     obtain ⟨rfl,rfl⟩:bk=bk'∧oo=oo':=by
      have:=hpK.symm.trans hpK'
      simp only [Option.some.injEq,Addr.mk.injEq] at this
      exact ⟨this.1,this.2.1⟩
     clear c0 c1 c2 c3 c4 c5 c6 c7 hpK'
     obtain ⟨c0,c1,c2,c3,c4,c5,c6,c7⟩:=row8 HST3.out.box
     rw [hpK,HMM.out] at c7
     have d0:=hcells 0 _ rfl
     have d1:=hcells 1 _ rfl
     have d2:=hcells 2 _ rfl
     have d3:=hcells 3 _ rfl
     have d4:=hcells 4 _ rfl
     have d5:=hcells 5 _ rfl
     have d6:=hcells 6 _ rfl
     have d7:=hcells 7 _ rfl
     rw [Nat.add_zero] at d0
     have HPK:=Ak hpK
     have HSB:=Ak hSb
     have HC0:=Ak hcells0
     have H0IN:=Ak h0in
     have H1IN:=Ak h1in
     obtain ⟨y,hy⟩:∃ y,y=ownT x1:=⟨_,rfl⟩
     have HY:=Ak hy
     have HLL:=Ak (show L.length≤2000 by have:=HD.out;have:=HDP.out;omega)
     clear hcells hcells0 h1in h0in hqk hpK hSb hy
     have hzs:w.heap.size≤w3.heap.size:=HST3.out.bel.size
     go_upto_region 6 with (first
      | (go_at_call 56;go_must (refine (townS_calls S w.heap.size x1 (qk 1) w3 hzs HSW.out H1IN.out).mono ?_;rw [← HY.out];rintro e w4 ⟨q9,rfl,ht9,hb4⟩;obtain ⟨W5,hW5⟩:∃ W5,W5=w4.alloc (.cells (tmC q9 y).toArray 28 (0,0)):=⟨_,rfl⟩;have hW5':W5=_:=hW5;simp only [tmC,List.cons_append,List.nil_append] at hW5';have hb5:Below w4.heap.size w4 W5:=(by rw [hW5];exact below_alloc (Below.refl _ _) _);have HB5:=Ak (below_then hb4 hb4.size hb5);have HR5:=Ak (show W5.heap[w4.heap.size]?=some (.cells (tmC q9 y).toArray 28 (0,0)) from (by rw [hW5];exact blk_new _ _));have HT5:=Ak (ht9.later hb5);have hz4:=hb4.size;have hz5:=HB5.out.size;clear hW5 ht9 hb4 hb5;obtain ⟨cells,q5,hown,hkids⟩:=HK3.out.later HB5.out;rw [HNV.out] at hown;have HOWN:=Ak hown;have HKID:=Ak hkids;clear hown hkids;unfold tmV))
      | (rw [← hW5'];refine print_append_at (w.heap.size+2) rfl (.tmp 16) (.tmp 22) 26 28 _ 8 120 rfl Try.underlying26 infoTm rfl (by decide) (by decide) (.slice AV nV cV) nV cells (tmC q9 y) rfl rfl HR5.out rfl (List.all_eq_true.1 rfl) HOWN.out (by have:=HLL.out;have:=HNV.out;rw [List.length_map] at this;omega) (by omega) ?_;intro v1 w6 ho1 hg hat;have HG6:=Ak hg;have HO6:=Ak ho1;have HA6:=Ak hat;obtain ⟨A6,c6',rfl⟩:=own_slice HO6.out;clear ho1 hg hat))
     have HOB:=Ak (show ∀ k,(Value.slice AV nV cV).ownBlock=some k→w.heap.size+2≤k from fun k e=>own_base HOWN.out k e)
     have HST6:=Ak ((HST3.out.later HSW.out HB5.out).grown HSW.out HG6.out HOB.out)
     have HS36:=Ak (show ∀ k,k<w.heap.size→w6.heap[k]?=w3.heap[k]? from fun k hk=>(HG6.out.block k (by omega) (fun e=>by have:=HOB.out _ e.symm;omega)).trans (HB5.out.block k (by omega)))
     have HK6:=Ak (KidsT.push (p:=q9) (x:=y) (fun b hb=>by have:=HSW.out b hb;omega) (by rw [HNV.out];exact HOWN.out) HKID.out (HT5.out.mono fun k hk hz=>hk.imp id fun h=>⟨by omega,fun e=>by have:=own_lt HK3.out.choose_spec.choose_spec.1 k e;omega⟩) (by rw [HNV.out];exact HO6.out) HG6.out HA6.out)
     have HI6:=Ak (show TmS w6 S (qk 0) x0 from H0IN.out.same fun k hk hz=>HS36.out k (HSW.out k hk))
     clear c0 c1 c2 c3 c4 c5 c6 c7 d0 d1 d2 d3 d4 d5 d6 d7 hW5'
     have e7:=(row8 HST6.out.box).2.2.2.2.2.2.2
     rw [HPK.out,HMM.out] at e7
     have hbk:∀ j v,(tmC (qk 0) x0)[j]?=some v→w6.cell? ⟨bk,oo+0 * 8+j,none⟩=some v:=fun j v hv=>(cell_same (HS36.out bk (HSW.out _ HSB.out))).trans (HC0.out j v hv)
     have d0:=hbk 0 _ rfl
     have d1:=hbk 1 _ rfl
     have d2:=hbk 2 _ rfl
     have d3:=hbk 3 _ rfl
     have d4:=hbk 4 _ rfl
     have d5:=hbk 5 _ rfl
     have d6:=hbk 6 _ rfl
     have d7:=hbk 7 _ rfl
     rw [Nat.add_zero] at d0
     obtain ⟨o0,o1,o2,o3,o4,o5,o6,o7,f0,f1,f2,f3,f4,f5,f6,f7⟩:=row8c HST6.out.box
     rw [HPK.out,HMM.out] at o7
     clear hbk e7
     go_wp2
     go_roundw
     case rel =>
      have hch:=chg_set8 w6 (w.heap.size) (.int .i64 x0.kind) (.int .i64 x0.num) (.string x0.name) (.int .i64 x0.lv.kind) (.int .i64 x0.lv.num) (.slice (qk 0).A x0.lv.kids.length (qk 0).c) (.slice (qk 0).B x0.ls.length (qk 0).d) (.slice (qk 0).K x0.kids.length (qk 0).e)
      have hst:=HST6.out
      have hz6:=HG6.out.size
      refine ⟨x0,qk 0,L ++ [x1],⟨?_⟩,⟨⟨set8 hst.box,HI6.out.same fun k hk hz=>hch.block k hz (by have:=HSW.out k hk;omega),(hch.block _ (blk_lt hst.res) (by omega)).trans hst.res,Chg.trans_below hst.bel hch (fun _ e=>by omega) hst.bel.size,HE0.out.symm.trans hst.hd⟩⟩,⟨?_⟩,⟨?_⟩,by have:=hch.size;omega⟩
      ·have:=HA.out
       rw [HEA.out] at this
       rw [List.reverse_append,← this]
       simp
      ·have:=HD.out;have:=HD0.out;simp;omega
      ·have:=HK6.out.other hch (by omega) (fun h=>by have:=HSW.out _ h;omega)
       rw [List.map_append,List.map_cons,List.map_nil,← HY.out]
       exact this
     case measure =>
      have:=HLL.out;have:=HNV.out
      rw [List.length_map] at this
      simp [slN];omega
   ·have b6:(t'.kind == 6)=false:=by simp [hk]
    have HNO:=Ak (show ¬ (t'.kind=6∧nK t'≠0) from fun h=>hk h.1)
    clear hk
    go_wp2
    go_meet
    case rel =>
     have hE:=spH_end HNO.out
     have hEA:=spA_end HNO.out
     have hA:=HA.out
     rw [hEA,List.nil_append] at hA
     have hst:=HST.out
     refine ⟨p',L,⟨?_⟩,⟨hA⟩,?_,HK,by omega⟩
     ·have hh:=hst.hd
      rw [hE] at hh
      rw [← hh]
      exact hst
     ·have:=HD.out;have:=HDP.out;omega
 case rest =>
  clear HST0 HZ2
  obtain ⟨p',L,HST,HL,hL2,HK,hzw⟩:=hcut
  obtain ⟨y,hy⟩:∃ y,y=ownT (spH t):=⟨_,rfl⟩
  have HY:=Ak hy
  have HRV:=Ak (show (L.map ownT).reverse=(spA t).map ownT by rw [← List.map_reverse,HL.out])
  have HRL:=Ak (show (L.map ownT).length=((spA t).map ownT).length by rw [← HRV.out,List.length_reverse])
  clear hy
  obtain ⟨xs,hxs⟩:∃ xs,xs=L.map ownT:=⟨_,rfl⟩
  have HXL:=Ak (show xs.length≤2000 by rw [hxs,List.length_map];exact hL2)
  rw [← hxs] at HK HRV HRL
  obtain ⟨z,hz⟩:∃ z,z=spH t:=⟨_,rfl⟩
  have HY2:=Ak (show y=ownT z by rw [hz];exact HY.out)
  rw [← hz] at HST
  clear hxs hz
  go_wp2_with (first
   | (refine wpList_load_row rfl 28 _ rfl (w.heap.size) rfl 28 _ (0,0) _ HX5.out Try.underlying28 rfl (by kernel_rfl) ?_)
   | (go_at_call 76;go_must (refine (revS_calls S (w.heap.size+2) _ xs wc HK.out (fun k h=>by have:=HSW.out k h;omega) hzw (by have:=HXL.out;omega)).mono ?_;rintro e w5 ⟨rfl,hb,A5,c5,q5,rfl,htm⟩;have HX5:=Ak ((hb.block _ (by omega)).trans HST.out.box);have HR5:=Ak ((hb.block _ (by omega)).trans HST.out.res);have HB5:=Ak (Below.trans HST.out.bel (hb.mono (by omega)));have HT5:=Ak (HST.out.tm.same (w':=w5) fun k hk hz=>hb.block k (by have:=HSW.out k hk;omega));have HTM5:=Ak htm;have hz5:=hb.size;clear hb htm))
   | (go_at_call 56;go_must (refine (townS_calls S w.heap.size z p' w5 HB5.out.size HSW.out HT5.out).mono ?_;rw [← HY2.out];rintro e w6 ⟨q9,rfl,ht9,hb6⟩;have HT6:=Ak ht9;have HR6:=Ak ((hb6.block _ (by omega)).trans HR5.out);have HB6:=Ak (below_then HB5.out HB5.out.size hb6);have HTM6:=Ak (HTM5.out.same fun k _ hk=>hb6.block k hk);have hz6:=hb6.size;obtain ⟨r0,r1,r2,r3,r4,r5,r6,r7,f0,f1,f2,f3,f4,f5,f6,f7⟩:=row8c HR6.out;clear ht9 hb6;unfold tmV)))
  refine bodyPost_ret (results_ct rfl _ _ (w.heap.size+1) 28 #[.int .i64 y.kind,.int .i64 y.num,.string y.name,.int .i64 y.lv.kind,.int .i64 y.lv.num,.slice q9.A y.lv.kids.length q9.c,.slice q9.B y.ls.length q9.d,.slice q9.K y.kids.length q9.e] (0,0) _ rfl (set8 HR6.out) Try.underlying28 rfl (by kernel_rfl)) rfl ?_
  have hch:=chg_set8 w6 (w.heap.size+1) (.int .i64 y.kind) (.int .i64 y.num) (.string y.name) (.int .i64 y.lv.kind) (.int .i64 y.lv.num) (.slice q9.A y.lv.kids.length q9.c) (.slice q9.B y.ls.length q9.d) (.slice q9.K y.kids.length q9.e)
  rw [← HY.out]
  refine ⟨q9,A5,xs.length,c5,q5,rfl,HRL.out,(HT6.out.same fun k hk hz=>hch.block k hz (by rcases hk with hk | hk;have:=HSW.out k hk;omega;omega)).mono fun k hk _=>hk.imp id (fun h=>by omega),?_,Chg.trans_below HB6.out hch (fun _ e=>by omega) HB6.out.size⟩
  rw [← HRV.out]
  exact (HTM6.out.same fun k hk hz=>hch.block k hz (by rcases hk with hk | hk;have:=HSW.out k hk;omega;omega)).mono fun k hk _=>hk.imp id (fun h=>by omega)
end Go.Proofs.Ytdboloabpjmgaaa

namespace Go.Proofs.Ytdboloabpjmgaaa
open Go.RowKit Go.Proofs.YtdboloabpjmgaaaW.PrintWords Go.RegionInvYtdboloabpjmgaaa Go.RegionEYtdboloabpjmgaaa

def KidsS (w:World) (S:Nat→Prop) (lo:Nat) (V:Value) (xs:List Tm):Prop:=
 ∃ (cells:List Value) (q:Nat→Pl),w.ownsRow lo 28 8 V xs.length cells∧(∀ u∈cells,u.oneCell'=true)∧(xs=[]→V=.slice none 0 0) ∧
  ∀ (i:Nat) (x:Tm),xs[i]?=some x→(∀ (j:Nat) (v:Value),(tmC (q i) x)[j]?=some v→cells[i * 8+j]?=some v)∧TmS w S (q i) x
theorem KidsS.nil (w:World) (S:Nat→Prop) (lo:Nat):KidsS w S lo (.slice none 0 0) []:=⟨[],fun _=>default,own_nil _ _ _ _,by simp,fun _=>rfl,fun i x h=>by simp at h⟩
theorem KidsS.later {w w':World} {S:Nat→Prop} {lo:Nat} {V:Value} {xs:List Tm} (h:KidsS w S lo V xs) (hb:Below w.heap.size w w'):KidsS w' S lo V xs:=by
 obtain ⟨cells,q,ho,h1,h0,hk⟩:=h
 exact ⟨cells,q,pw_own_below ho hb,h1,h0,fun i x hx=>⟨(hk i x hx).1,(hk i x hx).2.later hb⟩⟩
theorem KidsS.len {w:World} {S:Nat→Prop} {lo:Nat} {V:Value} {xs:List Tm} (h:KidsS w S lo V xs):∃ A c,V=.slice A xs.length c∧xs.length≤c∧c≤9223372036854775807∧True:=by
 obtain ⟨cells,q,ho,-⟩:=h
 obtain ⟨K,e,rfl⟩:=own_slice ho
 exact ⟨K,e,rfl,own_cap ho,own_max ho,trivial⟩
theorem SpB.far {w wr W:World} {S:Nat→Prop} {t:Tm} {p':Pl} {t':Tm} (h:SpB w wr S t p' t') (hS:∀ k,S k→k<w.heap.size) (hc:Below (w.heap.size+2) wr W):SpB w W S t p' t':=
 ⟨(hc.block _ (by omega)).trans h.box,h.tm.same fun k hk _=>hc.block k (by have:=hS k hk;omega),(hc.block _ (by omega)).trans h.res,Below.trans h.bel (hc.mono (by omega)),h.hd⟩
theorem KidsS.cons {w w6:World} {S:Nat→Prop} {lo n:Nat} {v6:Value} {xs:List Tm} {x:Tm} {p:Pl} {cells:List Value} {q:Nat→Pl} (h1:∀ u∈cells,u.oneCell'=true)
  (hk:∀ (i:Nat) (x:Tm),xs[i]?=some x→(∀ (j:Nat) (v:Value),(tmC (q i) x)[j]?=some v→cells[i * 8+j]?=some v)∧TmS w S (q i) x) (hx:TmS w S p x) (hn:n=xs.length)
  (ho:w6.ownsRow lo 28 8 v6 (1+n) (tmC p x ++ cells)) (hs:∀ k,S k→k<w.heap.size→w6.heap[k]?=w.heap[k]?):KidsS w6 S lo v6 (x :: xs):=by
 subst hn
 refine ⟨tmC p x ++ cells,fun i=>if i=0 then p else q (i - 1),by rw [List.length_cons,Nat.add_comm];exact ho,fun u hu=>?_,fun h=>by simp at h,fun i y hy=>?_⟩
 ·rcases List.mem_append.1 hu with hu | hu
  ·exact (List.all_eq_true.1 (tmC_one p x)) u hu
  ·exact h1 u hu
 ·cases i with
  | zero =>
   obtain rfl:x=y:=by simpa using hy
   refine ⟨fun j v hv=>?_,hx.same hs⟩
   have hj:j<8:=by have:=(List.getElem?_eq_some_iff.1 hv).1;rwa [tmC_len] at this
   rw [List.getElem?_append_left (by rw [tmC_len];omega),Nat.zero_mul,Nat.zero_add]
   exact hv
  | succ i =>
   obtain ⟨g1,g2⟩:=hk i y (by simpa using hy)
   refine ⟨fun j v hv=>?_,g2.same hs⟩
   rw [List.getElem?_append_right (by rw [tmC_len];omega),tmC_len,show (i+1) * 8+j - 8=i * 8+j by omega]
   exact g1 j v hv
end Go.Proofs.Ytdboloabpjmgaaa

namespace Go.Proofs.Ytdboloabpjmgaaa
open Go.RowKit Go.Proofs.YtdboloabpjmgaaaW.PrintWords Go.RegionInvYtdboloabpjmgaaa Go.RegionEYtdboloabpjmgaaa

theorem hn_nodeG {x:Tm} (hl:leafT x=true) (l:Lv) (ls:List Lv) (h2:slB l x.lv=true) (h7:lvsSl ls x.ls=true):hnB (.mk x.kind (if x.kind=1 then x.num else 0) (if x.kind=7 then x.name else noName) (if x.kind=2 then l else .mk 0 0 []) (if x.kind=7 then ls else []) []) x=true:=by
 have e1:leafR (.mk x.kind (if x.kind=1 then x.num else 0) (if x.kind=7 then x.name else noName) (if x.kind=2 then l else .mk 0 0 []) (if x.kind=7 then ls else []) [])=leafR x:=by
  have:=node_leafR hl
  unfold leafR at this ⊢
  exact this
 unfold hnB
 rw [e1]
 show (decide (x.kind=x.kind) && (leafR x == leafR x) && (leafR x || (if x.kind=1 then decide ((if x.kind=1 then x.num else 0)=x.num) else if x.kind=2 then slB (if x.kind=2 then l else .mk 0 0 []) x.lv else if x.kind=7 then ((if x.kind=7 then x.name else noName).toList == x.name.toList) && lvsSl (if x.kind=7 then ls else []) x.ls else true)))=true
 rw [decide_eq_true rfl]
 simp only [beq_self_eq_true,Bool.true_and]
 by_cases h1:x.kind=1
 ·rw [if_pos h1,if_pos h1];simp
 ·by_cases k2:x.kind=2
  ·rw [if_neg h1,if_pos k2,if_pos k2,h2];simp
  ·by_cases k7:x.kind=7
   ·rw [if_neg h1,if_neg k2,if_pos k7,if_pos k7,if_pos k7,h7];simp
   ·rw [if_neg h1,if_neg k2,if_neg k7];simp
theorem nr_reb {F:Tm→Int→Tm} (hF:∀ x e,leafT x=true→Nr (F x e) x) (N:Nat):∀ (t:Tm),SizeOf.sizeOf t<N→∀ b,Nr (rebP F t b) t:=by
 induction N with
 | zero=>intro t h;omega
 | succ N ih =>
  intro t hN b
  cases hl:leafT t with
  | true=>rw [reb_leaf hl];exact hF t b hl
  | false =>
   have hi:∀ i:Fin (nK t),Nr (rebP F (kidF t i) (b+moreZ t i)) (kidF t i):=fun i=>ih _ (by have:=kidF_lt t i;omega) _
   rw [reb_over hl]
   obtain ⟨s1,d1⟩:=size_over F (b:=b) hl
   refine ⟨near_node (over_leaf hl) hl rfl (fun i h1 h2=>?_) (over_nK hl),?_,?_⟩
   ·rw [over_kid i h1 h2]
    exact (hi ⟨i,h2⟩).near
   ·rw [s1,sum_eq _ _ _ fun i _=>(hi i).size,sizeT.eq_def t]
   ·rw [d1,sum_eq _ _ _ fun i _=>(hi i).depth,depthT.eq_def t]
theorem size_leafT {t:Tm} (h:leafT t=true):sizeT t=1:=size_leaf (leaf_nK h)
theorem depth_leafT {t:Tm} (h:leafT t=true):depthT t=1:=depth_leaf (leaf_nK h)
theorem nr_leafG {x y:Tm} (hx:leafT x=true) (hy:nK y=0) (h:hnB y x=true):Nr y x:=
 ⟨by rw [near_leaf (decide_eq_true hy)];exact h,by rw [size_leafT hx,size_leaf hy],by rw [depth_leafT hx,depth_leaf hy]⟩
theorem nr_node {x:Tm} (hl:leafT x=true):Nr (nodeP x) x:=nr_leafG hl (nK_nodeP x) (hn_nodeG hl _ _ (sl_ow _) (lvs_ow _))
def own1 (t:Tm):Tm:=rebP (fun t _=>nodeP t) t 0
theorem reb_any (F:Tm→Tm) (N:Nat):∀ (t:Tm),SizeOf.sizeOf t<N→∀ b c,rebP (fun x _=>F x) t b=rebP (fun x _=>F x) t c:=by
 induction N with
 | zero=>intro t h;omega
 | succ N ih =>
  intro t hN b c
  cases hl:leafT t with
  | true=>rw [reb_leaf hl,reb_leaf hl]
  | false =>
   rw [reb_over hl,reb_over hl]
   unfold overT rebKids
   congr 1
   refine List.map_congr_left fun i _=>?_
   exact ih _ (by have:=kidF_lt t i;omega) _ _
theorem nr_own1 (t:Tm):Nr (own1 t) t:=nr_reb (fun x _ h=>nr_node h) _ t (Nat.lt_succ_self _) 0
theorem ownT_1 {t:Tm} (h:okT t):ownT t=own1 t:=ownT_ok h
theorem ok_own1 {t:Tm}:okT (own1 t)↔okT t:=(nr_own1 t).ok
theorem own1_kind (t:Tm):(own1 t).kind=t.kind:=by
 unfold own1
 cases hl:leafT t with
 | true=>rw [reb_leaf hl];rfl
 | false=>rw [reb_over hl];rfl
theorem sp_ok (N:Nat):∀ (t:Tm),SizeOf.sizeOf t<N→okT t→okT (spH t)∧∀ x∈spA t,okT x:=by
 induction N with
 | zero=>intro t h;omega
 | succ N ih =>
  intro t hN hok
  by_cases h:t.kind=6∧nK t≠0
  ·obtain ⟨-,z0,d0,s0⟩:=app_kid h (i:=0) (by decide)
   obtain ⟨-,z1,d1,s1⟩:=app_kid h (i:=1) (by decide)
   have k0:okT (kidD t 0):=⟨by have:=hok.1;omega,by have:=hok.2;omega⟩
   have k1:okT (kidD t 1):=⟨by have:=hok.1;omega,by have:=hok.2;omega⟩
   obtain ⟨i1,i2⟩:=ih (kidD t 0) (by omega) k0
   rw [spH_app h,spA_app h]
   refine ⟨i1,fun x hx=>?_⟩
   rcases List.mem_append.1 hx with hx | hx
   ·exact i2 x hx
   ·rw [List.mem_singleton.1 hx];exact k1
  ·rw [spH_end h,spA_end h]
   exact ⟨hok,fun x hx=>by simp at hx⟩
end Go.Proofs.Ytdboloabpjmgaaa

namespace Go.Proofs.Ytdboloabpjmgaaa
open Go.RowKit Go.Proofs.YtdboloabpjmgaaaW.PrintWords Go.RegionInvYtdboloabpjmgaaa Go.RegionEYtdboloabpjmgaaa

structure Lf6 (x:Tm):Prop where
 lv:x.kind=2→May6 x.lv
 ls:x.kind=7→∀ l∈x.ls,May6 l
theorem may_lf6 {t:Tm} (h:MayN 6 t):∀ b,AllL (fun x _=>Lf6 x) t b:=by
 induction h with
 | @mk t hm _ ih =>
  intro b
  cases hl:leafT t with
  | true =>
   refine .leaf hl ⟨fun k=>?_,fun k=>?_⟩
   ·rw [mn_sort (mn_arity hm) k] at hm;exact may6 hm
   ·rw [mn_const (mn_arity hm) k] at hm
    split at hm
    ·cases hm
    ·split at hm
     ·cases hm
     ·exact fun l hl=>may6 (mayLs_all hm l hl)
  | false=>exact .node hl fun i=>ih i _
theorem same_reb2 {F G:Tm→Int→Tm} {t:Tm} {b:Int} (h:AllL (fun x e=>sameT (F x e) (G x e)=true) t b):sameT (rebP F t b) (rebP G t b)=true:=by
 induction h with
 | leaf hl hp=>rw [reb_leaf hl,reb_leaf hl];exact hp
 | @node t b hl _ ih =>
  rw [reb_over hl,reb_over hl,same_eq,hd_node (a:=overT F t b) (b:=overT G t b) (over_leaf hl) (over_leaf hl) rfl,Bool.true_and,List.all_eq_true]
  intro i _
  have h2:i.1<nK t:=Nat.lt_of_lt_of_le i.2 (Nat.le_of_eq (over_nK hl))
  rw [show i=⟨i.1,i.2⟩ from rfl,over_kid i.1 i.2 h2,List.getD_eq_getElem?_getD,over_get i.1 h2]
  exact ih ⟨i.1,h2⟩
theorem lvs_subs {us vs:List Lv} (hu:∀ u∈us,May6 u) (hv:∀ v∈vs,May6 v) (hul:us.length≤6):∀ {ls:List Lv},(∀ l∈ls,May6 l)→lvsEq ((ls.map (instL us)).map (instL vs)) (ls.map (instL (bothL us vs)))=true
 | [],_=>rfl
 | x :: r,h=>by
  show (eqP (instL vs (instL us x)) (instL (bothL us vs) x) && lvsEq ((r.map (instL us)).map (instL vs)) (r.map (instL (bothL us vs))))=true
  rw [subs_eq hu hv hul (h x (by simp)),lvs_subs hu hv hul fun l hl=>h l (by simp [hl])]
  rfl
theorem nK_lvF (vs:List Lv) (x:Tm) (e:Int):nK (lvF vs x e)=0:=nK_none rfl
theorem lvF_lvF (us vs:List Lv) (x:Tm) (e:Int):lvF vs (lvF us x e) e=.mk x.kind (if x.kind=1 then x.num else 0) (if x.kind=7 then x.name else noName) (if x.kind=2 then instL vs (instL us x.lv) else lv0) (if x.kind=7 then (x.ls.map (instL us)).map (instL vs) else []) []:=by
 show Tm.mk x.kind (if x.kind=1 then (if x.kind=1 then x.num else 0) else 0) (if x.kind=7 then (if x.kind=7 then x.name else noName) else noName) (if x.kind=2 then instL vs (if x.kind=2 then instL us x.lv else lv0) else lv0) (if x.kind=7 then (if x.kind=7 then x.ls.map (instL us) else []).map (instL vs) else []) []=_
 split <;> split <;> split <;> rfl
theorem hd_subs {us vs:List Lv} (hu:∀ u∈us,May6 u) (hv:∀ v∈vs,May6 v) (hul:us.length≤6) {x:Tm} (h:Lf6 x) (e:Int):hdB (lvF vs (lvF us x e) e) (lvF (bothL us vs) x e)=true:=by
 rw [lvF_lvF]
 have hl:leafR (.mk x.kind (if x.kind=1 then x.num else 0) (if x.kind=7 then x.name else noName) (if x.kind=2 then instL vs (instL us x.lv) else lv0) (if x.kind=7 then (x.ls.map (instL us)).map (instL vs) else []) [])=leafR (lvF (bothL us vs) x e):=rfl
 unfold hdB
 rw [hl]
 show (decide (x.kind=x.kind) && (_ == _) && (_ || (if x.kind=1 then decide ((if x.kind=1 then x.num else 0)=(if x.kind=1 then x.num else 0)) else if x.kind=2 then eqP (if x.kind=2 then instL vs (instL us x.lv) else lv0) (if x.kind=2 then instL (bothL us vs) x.lv else lv0) else if x.kind=7 then ((if x.kind=7 then x.name else noName).toList == (if x.kind=7 then x.name else noName).toList) && lvsEq (if x.kind=7 then (x.ls.map (instL us)).map (instL vs) else []) (if x.kind=7 then x.ls.map (instL (bothL us vs)) else []) else true)))=true
 rw [decide_eq_true rfl]
 simp only [beq_self_eq_true,Bool.true_and]
 by_cases h1:x.kind=1
 ·rw [if_pos h1];simp
 ·by_cases k2:x.kind=2
  ·rw [if_neg h1,if_pos k2,if_pos k2,if_pos k2,subs_eq hu hv hul (h.lv k2)];simp
  ·by_cases k7:x.kind=7
   ·rw [if_neg h1,if_neg k2,if_pos k7,if_pos k7,if_pos k7,lvs_subs hu hv hul (h.ls k7)];simp
   ·rw [if_neg h1,if_neg k2,if_neg k7];simp
theorem ok_lv {us:List Lv} {t:Tm} (h:okT t):okT (InstLvT t us)∧InstLvT t us=rebP (lvF us) t 0:=by
 have e:InstLvT t us=rebP (lvF us) t 0:=if_pos h
 exact ⟨by rw [e];exact ok_like (fun x e _=>nK_lvF us x e) h,e⟩
theorem spines_levels {t:Tm} {us vs:List Lv} (hw:Whole t) (hu:∀ u∈us,May6 u) (hv:∀ v∈vs,May6 v) (hul:us.length≤6):SameT (InstLvT (InstLvT t us) vs) (InstLvT t (bothL us vs))=true:=by
 obtain ⟨o1,e1⟩:=ok_lv (us:=us) hw.ok
 obtain ⟨o2,e2⟩:=ok_lv (us:=vs) o1
 obtain ⟨o3,e3⟩:=ok_lv (us:=bothL us vs) hw.ok
 unfold SameT
 rw [decide_eq_true o2,decide_eq_true o3,e2,e1,e3,reb2]
 simp only [Bool.true_and]
 refine same_reb2 ((may_lf6 hw.may 0).mono fun x e hl hx=>?_)
 rw [reb_leaf (leafT_of (nK_lvF us x e)),same_leaf (leafT_of (nK_lvF vs _ e))]
 exact hd_subs hu hv hul hx e
theorem list_two {α:Type} {l:List α} {a b:α} (hl:l.length=2) (h0:l[0]?=some a) (h1:l[1]?=some b):l=[a,b]:=by
 match l,hl with
 | [x,y],_ =>
  simp at h0 h1
  rw [h0,h1]
theorem own1_appT {t:Tm} (h:t.kind=6∧nK t≠0):own1 t=appT (own1 (kidD t 0)) (own1 (kidD t 1)):=by
 have hl:leafT t=false:=decide_eq_false h.2
 have h2:=app_two h
 have e:own1 t=overT (fun t _=>nodeP t) t 0:=reb_over hl
 have g0:=over_get (RF:=fun t _=>nodeP t) (t:=t) (b:=0) 0 (by omega)
 have g1:=over_get (RF:=fun t _=>nodeP t) (t:=t) (b:=0) 1 (by omega)
 rw [← kidD_eq] at g0 g1
 have hk:=list_two (by rw [over_len,h2]) g0 g1
 rw [e]
 show Tm.mk t.kind 0 noName (.mk 0 0 []) [] (overT (fun t _=>nodeP t) t 0).kids=_
 rw [hk,h.1,reb_any nodeP _ (kidD t 0) (Nat.lt_succ_self _) _ 0,reb_any nodeP _ (kidD t 1) (Nat.lt_succ_self _) _ 0]
 rfl
theorem own1_apps (N:Nat):∀ (t:Tm),SizeOf.sizeOf t<N→own1 t=appsP (own1 (spH t)) ((spA t).map own1):=by
 induction N with
 | zero=>intro t h;omega
 | succ N ih =>
  intro t hN
  by_cases h:t.kind=6∧nK t≠0
  ·rw [own1_appT h,ih (kidD t 0) (by have:=(app_kid h (i:=0) (by decide)).2.1;omega),spH_app h,spA_app h,List.map_append,List.map_cons,List.map_nil,appsP_snoc]
  ·rw [spH_end h,spA_end h];rfl
theorem own1_own1 {t:Tm} (hw:Whole t):own1 (own1 t)=canT t 0:=by
 unfold own1
 rw [reb2]
 refine reb_congr ((hw.lf 0).mono fun x e _ hx=>?_)
 rw [reb_leaf (leafT_of (nK_nodeP x))]
 exact node_node hx
theorem spine_same {t:Tm} (hw:Whole t):SameT (AppsT (ownT (spH t)) ((spA t).map ownT)) t=true:=by
 obtain ⟨k1,k2⟩:=sp_ok _ t (Nat.lt_succ_self _) hw.ok
 have e:appsP (ownT (spH t)) ((spA t).map ownT)=own1 t:=by
  rw [ownT_1 k1,List.map_congr_left (g:=own1) fun x hx=>ownT_1 (k2 x hx),← own1_apps _ t (Nat.lt_succ_self _)]
 have hk:okT (own1 t):=ok_own1.2 hw.ok
 refine sameT_can hw ?_
 unfold AppsT
 rw [e,if_pos hk,ownT_1 hk,own1_own1 hw]
theorem sp_stop (N:Nat):∀ (t:Tm),SizeOf.sizeOf t<N→¬ ((spH t).kind=6∧nK (spH t)≠0):=by
 induction N with
 | zero=>intro t h;omega
 | succ N ih =>
  intro t hN
  by_cases h:t.kind=6∧nK t≠0
  ·rw [spH_app h];exact ih _ (by have:=(app_kid h (i:=0) (by decide)).2.1;omega)
  ·rw [spH_end h];exact h
theorem sp_may (N:Nat):∀ (t:Tm),SizeOf.sizeOf t<N→MayN 6 t→MayN 6 (spH t):=by
 induction N with
 | zero=>intro t h;omega
 | succ N ih =>
  intro t hN hm
  by_cases h:t.kind=6∧nK t≠0
  ·rw [spH_app h]
   refine ih _ (by have:=(app_kid h (i:=0) (by decide)).2.1;omega) ?_
   have h2:0<nK t:=by rw [app_two h];omega
   rw [kidD_eq h2]
   cases hm with
   | mk _ hk=>exact hk _
  ·rw [spH_end h];exact hm
theorem spine_head {t:Tm} (hw:Whole t):(ownT (spH t)).kind≠6:=by
 rw [ownT_1 (sp_ok _ t (Nat.lt_succ_self _) hw.ok).1,own1_kind]
 intro h6
 refine sp_stop _ t (Nat.lt_succ_self _) ⟨h6,?_⟩
 have hm:=sp_may _ t (Nat.lt_succ_self _) hw.may
 cases hm with
 | mk h _ =>
  have ha:=mn_arity h
  rw [h6] at ha
  have e2:arZ 6=2:=rfl
  unfold nK
  rw [h6,e2]
  rw [if_neg (by omega)]
  decide
theorem same_twice {t:Tm} (hw:Whole t):SameT t t=true:=sameT_eq hw.ok (hw.lf 0) rfl
end Go.Proofs.Ytdboloabpjmgaaa

namespace Go.Proofs.Ytdboloabpjmgaaa
open Go.RowKit Go.Proofs.YtdboloabpjmgaaaW.PrintWords Go.RegionInvYtdboloabpjmgaaa Go.RegionEYtdboloabpjmgaaa

theorem instv_calls (S:Nat→Prop) (A:Option Addr) (c:Nat) (l:Lv) (Av:Option Addr) (nv cv:Nat) (vs:List Lv) (w:World) (hin:LvIn w w.heap.size A c l) (hv:LvIn w w.heap.size Av cv (.mk 0 0 vs)) (hn:nv=vs.length) (hn50:nv≤1000) :
  Calls Try.prog 88 #[lvV A c l,.slice Av nv cv] w (LvGot w S (instL vs l)):=
 (inst_calls A c l Av nv cv vs w hin hv hn hn50).mono fun e w' ⟨A2,c2,he,hl,hb⟩=>⟨A2,c2,he,hl.mono fun k h _=>h.elim (fun h=>h.elim) .inr,hb⟩
theorem gl_cell {w w':World} {gl:Nat} {v:Value} {t:TypeId} (h:w.heap[gl]?=some (.cells #[v] t (0,0))) (hb:Below w.heap.size w w'):w'.cell? ⟨gl,0,none⟩=some v:=by
 rw [cell_of_row _ _ _ _ _ _ (blk_below h hb)];rfl
set_option maxRecDepth 4000 in
set_option maxHeartbeats 16000000 in
theorem nodl_calls (vs:List Lv) (gl:Nat) (Av:Option Addr) (nv cv:Nat) (b:Int) (S:Nat→Prop) (t:Tm) (p:Pl) (w:World) (hnv:nv=vs.length) (hn50:nv≤1000) (hgl:w.heap[gl]?=some (.cells #[.slice Av nv cv] 23 (0,0))) (hvs:LvIn w w.heap.size Av cv (.mk 0 0 vs)) (hin:TmS w S p t):Calls Try.prog 87 #[tmV p t,.int .i64 b,.pointer (some ⟨gl,0,none⟩)] w (TmGot w S (lvF vs t b)):=by
 have HGL:=Ak hgl
 have HVS:=Ak hvs
 have HNV:=Ak hnv
 clear hnv hgl hvs
 obtain ⟨pA,pc,pB,pd,pK,pe⟩:=p
 have hin2:TmS w (fun b=>S b∧b<w.heap.size) ⟨pA,pc,pB,pd,pK,pe⟩ t:=hin.mono fun b h1 h2=>⟨h1,h2⟩
 have HIN:=Ak hin2
 have HS:=Ak (show ∀ b,(S b∧b<w.heap.size)→b<w.heap.size from fun b h=>h.2)
 have hll:=hin.lv.len
 have hln:=hin.ls.len
 clear hin hin2
 obtain ⟨W,hW⟩:∃ W,W=((w.alloc (tmO ⟨pA,pc,pB,pd,pK,pe⟩ t)).alloc (.cells #[.int .i64 0,.int .i64 0,.string ⟨#[]⟩,.int .i64 0,.int .i64 0,.slice none 0 0,.slice none 0 0,.slice none 0 0] 28 (0,0))).alloc (.cells #[.int .i64 t.kind,.int .i64 0,.string ⟨#[]⟩,.int .i64 0,.int .i64 0,.slice none 0 0,.slice none 0 0,.slice none 0 0] 28 (0,0)):=⟨_,rfl⟩
 have hX:W.heap[w.heap.size]?=some (tmO ⟨pA,pc,pB,pd,pK,pe⟩ t):=by rw [hW];exact blk_alloc (box0 w _ _) _
 have hst:NdB w W (outN t.kind 0 noName (.mk 0 0 []) none 0 (.slice none 0 0)):=by
  rw [hW]
  refine ⟨?_,blk_alloc (box1 w _ _) _,below_alloc (below_alloc (below_alloc (Below.refl _ _) _) _) _⟩
  have:=blk_new ((w.alloc (tmO ⟨pA,pc,pB,pd,pK,pe⟩ t)).alloc (.cells #[.int .i64 0,.int .i64 0,.string noName,.int .i64 0,.int .i64 0,.slice none 0 0,.slice none 0 0,.slice none 0 0] 28 (0,0))) (outN t.kind 0 noName (.mk 0 0 []) none 0 (.slice none 0 0))
  simp only [World.size_alloc] at this
  exact this
 have HX:=Ak hX
 have HST:=Ak hst
 unfold tmV
 go_enter Try.func87,Try.ntmps87
 go_upto_region 2 with (fail)
 rw [← hW]
 clear hW hX hst
 obtain ⟨c0,c1,c2,c3,c4,c5,c6,c7⟩:=row8 HX.out
 dsimp only at c5 c6 c7 hll hln
 obtain ⟨r0,r1,r2,r3,r4,r5,r6,r7,f0,f1,f2,f3,f4,f5,f6,f7⟩:=row8c HST.out.o
 have hlev:t.lv.kids.length≤9223372036854775807:=by omega
 obtain ⟨n,hn⟩:∃ n,n=t.ls.length:=⟨_,rfl⟩
 have hn40:n * 40≤140737488355328:=by rw [hn];exact HIN.out.fit.2.2
 have hn9:n≤9223372036854775807:=by rw [hn];exact Nat.le_trans hln.1 hln.2
 rw [← hn] at c6
 rw [← hn]
 have HN:=Ak hn
 clear hn hll hln
 have gc:=gl_cell HGL.out HST.out.bel
 go_upto_block 0 with (fail)
 go_cut [] (fun wr=>∃ pq:Pl,Aside0 (NdB w wr (tmO pq (lvF vs t b)))∧Aside0 (TmS wr (fun b=>(S b∧b<w.heap.size)∨w.heap.size+3≤b) pq (lvF vs t b)))
 case first =>
  by_cases h1:t.kind=1
  ·have HE:=Ak (show lvF vs t b=.mk t.kind t.num noName (.mk 0 0 []) [] [] by unfold lvF;rw [if_pos h1,if_neg (by omega),if_neg (by omega),if_neg (by omega)])
   have b1:(t.kind == 1)=true:=by simp [h1]
   clear h1
   go_wp2
   go_meet
   have hch:=chg_set W (w.heap.size+1+1) 1 (.int .i64 t.num)
   case rel =>
    rw [HE.out]
    exact ⟨⟨none,0,none,0,none,0⟩,⟨⟨blk_put HST.out.o 1 _ rfl,(hch.block _ (blk_lt HST.out.res) (by omega)).trans HST.out.res,Chg.trans_below HST.out.bel hch (fun _ e=>by omega) HST.out.bel.size⟩⟩,⟨.mk (fun _=>default) (LvS.leaf _ _ _ _) (LvS.leaf _ _ _ _) (by simp) (by simp) ⟨HIN.out.fit.1,by decide,by simp⟩ (fun i x h=>by simp at h) (fun i x h=>by simp at h)⟩⟩
  have b1:(t.kind == 1)=false:=by simp [h1]
  have H1:=Ak h1
  clear h1
  by_cases h2:t.kind=2
  ·have HE:=Ak (show lvF vs t b=.mk t.kind 0 noName (instL vs t.lv) [] [] by unfold lvF;rw [if_neg H1.out,if_neg (by omega),if_pos h2,if_neg (by omega)])
   have b2:(t.kind == 2)=true:=by simp [h2]
   clear h2
   go_wp2_with (first
    | (go_at_call 88;go_must (refine (instv_calls (fun b=>S b∧b<w.heap.size) pA pc t.lv Av nv cv vs _ (((HIN.out.lv).same fun k hk hz=>HST.out.bel.block k hk.2).all) ((HVS.out.stay HST.out.bel).mono HST.out.bel.size) HNV.out hn50).mono ?_;obtain ⟨y,hy⟩:∃ y,y=instL vs t.lv:=⟨_,rfl⟩;rw [← hy];have HY:=Ak hy;rintro e w2 ⟨A2,cc2,rfl,hl2,hb⟩;have HL2:=Ak hl2;have HST2:=Ak (show NdB w w2 _ from ⟨blk_below HST.out.o hb,blk_below HST.out.res hb,below_then HST.out.bel HST.out.bel.size hb⟩);have HZ2:=Ak (nd_base HST.out);obtain ⟨r0,r1,r2,r3,r4,r5,r6,r7,f0,f1,f2,f3,f4,f5,f6,f7⟩:=row8c HST2.out.o;clear hb hl2 hy;simp only [lvV])))
   go_meet
   have hch:=chg_set3' w2 (w.heap.size+1+1) 3 4 5 (.int .i64 y.kind) (.int .i64 y.num) (.slice A2 y.kids.length cc2)
   have hz2:=HZ2.out
   case rel =>
    rw [HE.out,← HY.out]
    refine ⟨⟨A2,cc2,none,0,none,0⟩,⟨⟨blk_put (blk_put (blk_put HST2.out.o 3 _ rfl) 4 _ rfl) 5 _ rfl,(hch.block _ (blk_lt HST2.out.res) (by omega)).trans HST2.out.res,Chg.trans_below HST2.out.bel hch (fun _ e=>by omega) HST2.out.bel.size⟩⟩,⟨.mk (fun _=>default) ?_ (LvS.leaf _ _ _ _) (by simp) (by simp) ⟨by decide,by decide,by simp⟩ (fun i x h=>by simp at h) (fun i x h=>by simp at h)⟩⟩
    exact (HL2.out.same fun k hk hz=>hch.block k hz (fun e=>by rcases hk with hk | hk <;> omega)).mono fun k hk _=>hk.imp id fun h=>by omega
  have b2:(t.kind == 2)=false:=by simp [h2]
  have H2:=Ak h2
  clear h2
  by_cases h7:t.kind=7
  ·have HE:=Ak (show lvF vs t b=.mk t.kind 0 t.name (.mk 0 0 []) (t.ls.map (instL vs)) [] by unfold lvF;rw [if_neg H1.out,if_pos h7,if_neg H2.out,if_pos h7])
   have b7:(t.kind == 7)=true:=by simp [h7]
   clear h7
   go_upto_block 1 with (fail)
   have hch:=chg_set W (w.heap.size+1+1) 2 (.string t.name)
   have hst1:NdB w (W.setCell ⟨w.heap.size+1+1,2,none⟩ (.string t.name)) (outN t.kind 0 t.name (.mk 0 0 []) none 0 (.slice none 0 0)):=⟨blk_put HST.out.o 2 _ rfl,(hch.block _ (blk_lt HST.out.res) (by omega)).trans HST.out.res,Chg.trans_below HST.out.bel hch (fun _ e=>by omega) HST.out.bel.size⟩
   obtain ⟨W1,hW1⟩:∃ W1,W1=W.setCell ⟨w.heap.size+1+1,2,none⟩ (.string t.name):=⟨_,rfl⟩
   rw [← hW1] at hst1 ⊢
   have HST1:=Ak hst1
   clear hst1 hch hW1
   have gc1:=gl_cell HGL.out HST1.out.bel
   go_wp2
   go_loopw [34] (fun i wr=>∃ (j:Nat) (V:Value),i=.int .i64 j∧j≤n∧Aside0 (NdB w wr (outN t.kind 0 t.name (.mk 0 0 []) none 0 V))∧Aside0 (KidsL wr (fun b=>S b∧b<w.heap.size) (w.heap.size+3) V ((t.ls.take j).map (instL vs)))) (fun i _=>n - (intOf i).toNat)
   case atStart=>exact ⟨0,.slice none 0 0,rfl,Nat.zero_le _,HST1,⟨KidsL.nil _ _ _⟩⟩
   case round =>
    clear gc gc1 HST1 HST HX c0 c1 c2 c3 c4 c5 c6 c7 r0 r1 r2 r3 r4 r5 r6 r7 f0 f1 f2 f3 f4 f5 f6 f7
    obtain ⟨j,V,rfl,hj,HST,HK⟩:=hrel
    by_cases hlt:j<n
    ·obtain ⟨x,hx⟩:∃ x,t.ls[j]?=some x:=⟨_,List.getElem?_eq_getElem (by rw [← HN.out];exact hlt)⟩
     obtain ⟨A',c',hcs,hxin⟩:=((HIN.out.ls).same (w':=wr) fun k hk hz=>HST.out.bel.block k hk.2).kid j x hx
     obtain ⟨ad,rfl,hc1,hc2,hc3⟩:=hcs.facts
     have HX:=Ak hx
     have HXIN:=Ak hxin
     obtain ⟨y,hy⟩:∃ y,y=instL vs x:=⟨_,rfl⟩
     have HY:=Ak hy
     have HTK:=Ak (show (t.ls.take (j+1)).map (instL vs)=(t.ls.take j).map (instL vs) ++ [y] by rw [List.take_add_one,hx,List.map_append,hy];rfl)
     have HTL:=Ak (show ((t.ls.take j).map (instL vs)).length=j by rw [List.length_map,List.length_take];have:=HN.out;omega)
     clear hcs hx hxin hy
     have hco:=blk_alloc HST.out.o (.cells #[.int .i64 x.kind,.int .i64 x.num,.slice A' x.kids.length c'] 25 (0,0))
     have hcv:(wr.alloc (.cells #[.int .i64 x.kind,.int .i64 x.num,.slice A' x.kids.length c'] 25 (0,0))).cell? ⟨w.heap.size+1+1,6,none⟩=some V:=by
      rw [cell_of_row _ _ _ _ _ _ hco];rfl
     have hcz:=blk_frozen hco 6
     have gcr:=gl_cell HGL.out (below_alloc HST.out.bel (.cells #[.int .i64 x.kind,.int .i64 x.num,.slice A' x.kids.length c'] 25 (0,0)))
     have gcw:=gl_cell HGL.out HST.out.bel
     clear hco
     go_upto_block 2 with (fail)
     go_cut [] (fun w5=>∃ v5,Aside0 (NdB w w5 (outN t.kind 0 t.name (.mk 0 0 []) none 0 v5))∧Aside0 (KidsL w5 (fun b=>S b∧b<w.heap.size) (w.heap.size+3) v5 ((t.ls.take (j+1)).map (instL vs))))
     case first =>
      go_upto_region 12 with (fail)
      go_region_law (first
       | (go_simp;go_at_call 88;refine (instv_calls (fun b=>S b∧b<w.heap.size) A' c' x Av nv cv vs _ ((HXIN.out.later (by repeat' first | exact Below.refl _ _ | apply below_drew | apply below_alloc)).all) (LvIn.mono (HVS.out.stay (below_then HST.out.bel HST.out.bel.size (by repeat' first | exact Below.refl _ _ | apply below_drew | apply below_alloc))) (Nat.le_trans HST.out.bel.size (by simp))) HNV.out hn50).mono ?_;rw [← HY.out];rintro e w5 ⟨A5,c5,rfl,hl5,hb5⟩;have ST5:=Ak (nd_in HST.out HK.out (by repeat' first | exact Below.refl _ _ | apply below_drew | apply below_alloc) hb5 hl5);have hcv5:=ST5.out.cell;have hcz5:=blk_frozen ST5.out.o 6;have hcw5:=ST5.out.cell2 (.cells #[.int .i64 y.kind,.int .i64 y.num,.slice A5 y.kids.length c5] 25 (0,0));clear hl5 hb5;simp only [lvV])
       | (first
         | (have STA:=Ak ST5.out;obtain ⟨cells,fA,fc,hown,hkids⟩:=STA.out.kids;have hownj:=hown;rw [HTL.out] at hownj;refine step_append_cells (w0:=w5) (W:=w5) (w.heap.size+3) (by simp [Region.wanted]) (.tmp 39) (.tmp 43) 23 25 _ 3 40 rfl Try.underlying23 infoLv rfl (by decide) (by decide) V j cells [.int .i64 y.kind,.int .i64 y.num,.slice A5 y.kids.length c5] rfl rfl rfl (by simp [Value.oneCell']) hownj (Below.refl _ _) (nd_base STA.out.toNdB) (by omega) ?_;intro v6 w6 ho6 _ hg6 hat6;obtain ⟨A6,c6,rfl⟩:=own_slice ho6;have ST6:=Ak (nd_push HS.out STA.out hown hkids (by rw [HTL.out];exact ho6) hg6 hat6);have hcv6:=ST6.out.cell;have hcz6:=blk_frozen ST6.out.o 6;clear hown hownj hkids ho6 hg6 hat6 STA)
         | (have STA:=Ak ST5.out.drew;obtain ⟨cells,fA,fc,hown,hkids⟩:=STA.out.kids;have hownj:=hown;rw [HTL.out] at hownj;refine step_append_cells (w0:=w5.drew) (W:=w5.drew) (w.heap.size+3) (by simp [Region.wanted]) (.tmp 39) (.tmp 43) 23 25 _ 3 40 rfl Try.underlying23 infoLv rfl (by decide) (by decide) V j cells [.int .i64 y.kind,.int .i64 y.num,.slice A5 y.kids.length c5] rfl rfl rfl (by simp [Value.oneCell']) hownj (Below.refl _ _) (nd_base STA.out.toNdB) (by omega) ?_;intro v6 w6 ho6 _ hg6 hat6;obtain ⟨A6,c6,rfl⟩:=own_slice ho6;have ST6:=Ak (nd_push HS.out STA.out hown hkids (by rw [HTL.out];exact ho6) hg6 hat6);have hcv6:=ST6.out.cell;have hcz6:=blk_frozen ST6.out.o 6;clear hown hownj hkids ho6 hg6 hat6 STA)))
      all_goals (go_wp2;go_meet)
      all_goals (exact nd_fin HS.out ST6.out HTK.out)
     case rest =>
      clear HST HK HXIN hc1 hc2 hc3 hcv hcz gcr gcw
      obtain ⟨V2,HST,HK⟩:=hcut
      go_wp2
      go_roundw
      case rel=>exact ⟨j+1,V2,by go_num,by omega,HST,HK⟩
      case measure=>(simp [intOf];try omega)
    ·obtain rfl:j=n:=by omega
     have hlt':decide ((j:Int)<j)=false:=by simp
     have HTJ:=Ak (show t.ls.take j=t.ls from List.take_of_length_le (by rw [HN.out];exact Nat.le_refl _))
     go_wp2
     go_meet
     case rel =>
      rw [HTJ.out] at HK
      obtain ⟨A9,c9,rfl,hlv⟩:=HK.out.level
      rw [HE.out]
      exact ⟨⟨none,0,A9,c9,none,0⟩,HST,⟨.mk (fun _=>default) (LvS.leaf _ _ _ _) hlv (by simp) (by simp) ⟨by decide,HIN.out.fit.2.1,by rw [List.length_map];exact HIN.out.fit.2.2⟩ (fun i x h=>by simp at h) (fun i x h=>by simp at h)⟩⟩
  ·have HE:=Ak (show lvF vs t b=.mk t.kind 0 noName (.mk 0 0 []) [] [] by unfold lvF;rw [if_neg H1.out,if_neg h7,if_neg H2.out,if_neg h7])
   have b7:(t.kind == 7)=false:=by simp [h7]
   clear h7
   go_wp2
   go_meet
   case rel =>
    rw [HE.out]
    exact ⟨⟨none,0,none,0,none,0⟩,HST,⟨.mk (fun _=>default) (LvS.leaf _ _ _ _) (LvS.leaf _ _ _ _) (by simp) (by simp) ⟨by decide,by decide,by simp⟩ (fun i x h=>by simp at h) (fun i x h=>by simp at h)⟩⟩
 case rest =>
  clear gc c0 c1 c2 c3 c4 c5 c6 c7 r0 r1 r2 r3 r4 r5 r6 r7 f0 f1 f2 f3 f4 f5 f6 f7 HST HX
  obtain ⟨pq,HST,HTM⟩:=hcut
  obtain ⟨y,hy⟩:∃ y,y=lvF vs t b:=⟨_,rfl⟩
  rw [← hy] at HST HTM
  have HY:=Ak hy
  clear hy
  obtain ⟨c0,c1,c2,c3,c4,c5,c6,c7⟩:=row8 HST.out.o
  obtain ⟨r0,r1,r2,r3,r4,r5,r6,r7,f0,f1,f2,f3,f4,f5,f6,f7⟩:=row8c HST.out.res
  go_wp2
  refine bodyPost_ret (results_c rfl _ _ (w.heap.size+1) 28 #[.int .i64 y.kind,.int .i64 y.num,.string y.name,.int .i64 y.lv.kind,.int .i64 y.lv.num,.slice pq.A y.lv.kids.length pq.c,.slice pq.B y.ls.length pq.d,.slice pq.K y.kids.length pq.e] (0,0) _ rfl (set8 HST.out.res) Try.underlying28 rfl (by kernel_rfl)) rfl ?_
  have hch:=chg_set8 wc (w.heap.size+1) (.int .i64 y.kind) (.int .i64 y.num) (.string y.name) (.int .i64 y.lv.kind) (.int .i64 y.lv.num) (.slice pq.A y.lv.kids.length pq.c) (.slice pq.B y.ls.length pq.d) (.slice pq.K y.kids.length pq.e)
  rw [← HY.out]
  exact ⟨pq,rfl,(HTM.out.same fun b hb hz=>hch.block b hz (by rcases hb with hb | hb <;> omega)).mono fun b hb _=>hb.imp And.left fun h=>by omega,Chg.trans_below HST.out.bel hch (fun _ e=>by omega) HST.out.bel.size⟩

end Go.Proofs.Ytdboloabpjmgaaa

namespace Go.Proofs.Ytdboloabpjmgaaa
open Go.RowKit Go.Shelf Go.Proofs.YtdboloabpjmgaaaW.PrintWords Go.RegionInvYtdboloabpjmgaaa Go.RegionEYtdboloabpjmgaaa
attribute [local go_sem] Oper.semAt_some

abbrev vrIl (gl:Nat):Value:=.func (.func 87) #[] #[.pointer (some ⟨gl,0,none⟩)]
abbrev rbWIl (w:World) (p:Pl) (t:Tm) (b:Int) (gl:Nat):World:=
 (((w.alloc (tmO p t)).alloc (.cells #[.int .i64 b] 3 (0,0))).alloc (.cells #[vrIl gl] 68 (0,0))).alloc (.cells #[.int .i64 0,.int .i64 0,.string ⟨#[]⟩,.int .i64 0,.int .i64 0,.slice none 0 0,.slice none 0 0,.slice none 0 0] 28 (0,0))
set_option maxRecDepth 100000 in
set_option maxHeartbeats 16000000 in
theorem reb_Il (RF:Tm→Int→Tm) (Rep:World→Prop) (S:Nat→Prop) (g0 g1:Nat) (h01:g0≤g1) (hS:∀ k,S k→k<g0) (gl:Nat)
  (hRep:∀ (W W':World),Rep W→(∀ k,k<g1→W'.heap[k]?=W.heap[k]?)→Rep W')
  (hvis:∀ (t:Tm) (p:Pl) (b:Int) (w:World),leafT t=true→0≤b→b≤1000000→g1≤w.heap.size→TmS w S p t→Rep w→Calls Try.prog 87 #[tmV p t,.int .i64 b,.pointer (some ⟨gl,0,none⟩)] w (TmGot w S (RF t b)))
  (N:Nat):∀ (t:Tm),SizeOf.sizeOf t<N→∀ (p:Pl) (b:Int) (w:World),0≤b→b+depthT t≤1000000→g1≤w.heap.size→TmS w S p t→Rep w →
  Calls Try.prog 60 #[tmV p t,.int .i64 b,vrIl gl] w (TmGot w S (rebP RF t b)):=by
 induction N with
 | zero=>intro t h;omega
 | succ N ih =>
  intro t hN p b w hb0 hb1 hg1 hin hR
  have hg:g0≤w.heap.size:=Nat.le_trans h01 hg1
  have IH:=Ak ih
  have HSS:=Ak hS
  have HRP:=Ak hRep
  have HVS:=Ak hvis
  have HIN:=Ak hin
  have HR:=Ak hR
  have HNN:=Ak hN
  have HBD:=Ak hb1
  have hdp:1≤depthT t:=by rw [depthT];omega
  have hb2:b≤1000000:=by omega
  have hz0:(rbWIl w p t b gl).heap.size=w.heap.size+4:=by simp
  have hb0w:Below w.heap.size w (rbWIl w p t b gl):=below_alloc (below_alloc (below_alloc (below_alloc (Below.refl _ _) _) _) _) _
  have HX0:=Ak (show (rbWIl w p t b gl).heap[w.heap.size]?=some (tmO p t) from blk_alloc (blk_alloc (blk_alloc (blk_new _ _) _) _) _)
  have HX1:=Ak (show (rbWIl w p t b gl).heap[w.heap.size+1]?=some (.cells #[.int .i64 b] 3 (0,0)) by have:=blk_new (w.alloc (tmO p t)) (.cells #[.int .i64 b] 3 (0,0));simp only [World.size_alloc] at this;exact blk_alloc (blk_alloc this _) _)
  have HX2:=Ak (show (rbWIl w p t b gl).heap[w.heap.size+1+1]?=some (.cells #[vrIl gl] 68 (0,0)) by have:=blk_new ((w.alloc (tmO p t)).alloc (.cells #[.int .i64 b] 3 (0,0))) (.cells #[vrIl gl] 68 (0,0));simp only [World.size_alloc] at this;exact blk_alloc this _)
  have HX3:=Ak (show (rbWIl w p t b gl).heap[w.heap.size+1+1+1]?=some (outK 0 (.slice none 0 0)) by have:=blk_new (((w.alloc (tmO p t)).alloc (.cells #[.int .i64 b] 3 (0,0))).alloc (.cells #[vrIl gl] 68 (0,0))) (outK 0 (.slice none 0 0));simp only [World.size_alloc] at this;exact this)
  have HZ0:=Ak hz0
  have HB0:=Ak hb0w
  clear ih hRep hvis hin hR hN hz0 hb0w hb1
  unfold tmV vrIl
  refine (callsIn_wide (n:=5)).1 ?_
  refine callsIn_of_wp_marks Try.func60 rfl trivial ?_ rfl
  simp only [Try.ntmps60,List.size_toArray,List.length_cons,List.length_nil,Nat.reduceAdd,Nat.reduceSub,Array.replicate_succ,Array.replicate_zero,List.push_toArray,List.append_toArray,List.nil_append,List.cons_append]
  cases hlf:leafT t with
  | true =>
   have HLF:=Ak hlf
   have HE:=Ak (reb_leaf (RF:=RF) (b:=b) hlf)
   clear hlf
   gi_wp2
   refine ⟨trivial,?_⟩
   gi_at_call 75
   refine (callsIn_wide.2 (leaf_calls t p _)).mono ?_
   rintro e w1 ⟨rfl,hb1⟩
   rw [HLF.out]
   have hX0:=(hb1.block w.heap.size (by rw [HZ0.out];omega)).trans HX0.out
   have hX1:=(hb1.block _ (by rw [HZ0.out];omega)).trans HX1.out
   have hX2:=(hb1.block _ (by rw [HZ0.out];omega)).trans HX2.out
   have hX3:=(hb1.block _ (by rw [HZ0.out];omega)).trans HX3.out
   have HX31:=Ak hX3
   have HB1:=Ak (show Below w.heap.size w w1 from Below.trans HB0.out (hb1.mono HB0.out.size))
   obtain ⟨c0,c1,c2,c3,c4,c5,c6,c7⟩:=row8 hX0
   have d1:w1.cell? ⟨w.heap.size+1,0,none⟩=some (.int .i64 b):=by (rw [cell_of_row _ _ _ _ _ _ hX1];rfl)
   have d2:w1.cell? ⟨w.heap.size+1+1,0,none⟩=some (vrIl gl):=by (rw [cell_of_row _ _ _ _ _ _ hX2];rfl)
   clear hb1 hX0 hX1 hX2 hX3
   gi_wp2
   refine ⟨trivial,?_⟩
   gi_at_call 87
   refine (callsIn_wide.2 (HVS.out t p b w1 HLF.out hb0 hb2 (Nat.le_trans hg1 HB1.out.size) (TmS.stay HIN.out HSS.out (HB1.out.mono hg)) (HRP.out _ _ HR.out (fun k hk=>HB1.out.block k (by omega))))).mono ?_
   rintro e w3 ⟨q9,rfl,ht9,hb3⟩
   have hX3:=(hb3.block _ (blk_lt HX31.out)).trans HX31.out
   have HX33:=Ak hX3
   have HT9:=Ak ht9
   have HB3:=Ak hb3
   obtain ⟨r0,r1,r2,r3,r4,r5,r6,r7,f0,f1,f2,f3,f4,f5,f6,f7⟩:=row8c hX3
   obtain ⟨y,hy⟩:∃ y,y=RF t b:=⟨_,rfl⟩
   rw [← hy] at HT9 HE ⊢
   clear hX3 ht9 hb3 hy c0 c1 c2 c3 c4 c5 c6 c7
   unfold tmV
   gi_wp2
   refine ⟨_,results_c rfl _ _ (w.heap.size+1+1+1) 28 #[.int .i64 y.kind,.int .i64 y.num,.string y.name,.int .i64 y.lv.kind,.int .i64 y.lv.num,.slice q9.A y.lv.kids.length q9.c,.slice q9.B y.ls.length q9.d,.slice q9.K y.kids.length q9.e] (0,0) _ rfl (set8 HX33.out) Try.underlying28 rfl (by kernel_rfl),?_⟩
   have hch:=chg_set8 w3 (w.heap.size+1+1+1) (.int .i64 y.kind) (.int .i64 y.num) (.string y.name) (.int .i64 y.lv.kind) (.int .i64 y.lv.num) (.slice q9.A y.lv.kids.length q9.c) (.slice q9.B y.ls.length q9.d) (.slice q9.K y.kids.length q9.e)
   rw [HE.out]
   have hz1:=blk_lt HX31.out
   exact ⟨q9,rfl,(HT9.out.same fun k hk hz=>hch.block k hz (by rcases hk with hk | hk;have:=HSS.out _ hk;omega;omega)).mono fun k hk _=>hk.imp id fun h=>by omega,Chg.trans_below (below_then HB1.out HB1.out.size HB3.out) hch (fun _ e=>by omega) (Nat.le_trans HB1.out.size HB3.out.size)⟩
  | false =>
   have HLF:=Ak hlf
   have HE:=Ak (reb_node (RF:=RF) (b:=b) hlf)
   clear hlf
   gi_wp2
   refine ⟨trivial,?_⟩
   gi_at_call 75
   refine (callsIn_wide.2 (leaf_calls t p _)).mono ?_
   rintro e w1 ⟨rfl,hb1⟩
   rw [HLF.out]
   have hX0:=(hb1.block w.heap.size (by rw [HZ0.out];omega)).trans HX0.out
   have hX1:=(hb1.block _ (by rw [HZ0.out];omega)).trans HX1.out
   have hX2:=(hb1.block _ (by rw [HZ0.out];omega)).trans HX2.out
   have hX3:=(hb1.block _ (by rw [HZ0.out];omega)).trans HX3.out
   have hz1:w.heap.size+4≤w1.heap.size:=by have:=hb1.size;rw [HZ0.out] at this;exact this
   have HX01:=Ak hX0
   have HX11:=Ak hX1
   have HX21:=Ak hX2
   have HX31:=Ak hX3
   have HB1:=Ak (show Below w.heap.size w w1 from Below.trans HB0.out (hb1.mono HB0.out.size))
   obtain ⟨c0,c1,c2,c3,c4,c5,c6,c7⟩:=row8 hX0
   have hlt0:w.heap.size<w1.heap.size:=by omega
   clear hb1 hX0 hX1 hX2 hX3
   gi_wp2
   refine ⟨trivial,?_⟩
   gi_at_call 96
   obtain ⟨W1,hW1⟩:∃ W1,W1=w1.alloc (outK t.kind (.slice none 0 0)):=⟨_,rfl⟩
   rw [← hW1]
   have HO1:=Ak (show W1.heap[w1.heap.size]?=some (outK t.kind (.slice none 0 0)) by rw [hW1];exact blk_new _ _)
   have HBW1:=Ak (show Below w1.heap.size w1 W1 by rw [hW1];exact below_alloc (Below.refl _ _) _)
   have HZW1:=Ak (show W1.heap.size=w1.heap.size+1 by rw [hW1];simp)
   refine (callsIn_wide.2 (tkids_calls p t W1)).mono ?_
   rintro e w2 ⟨rfl,hw2⟩
   have HZX2:=Ak (show w2.heap[W1.heap.size]?=some (tmO p t) by rw [hw2];exact blk_new _ _)
   have HB2:=Ak (show Below W1.heap.size W1 w2 by rw [hw2];exact below_alloc (Below.refl _ _) _)
   have HZW2:=Ak (show w2.heap.size=W1.heap.size+1 by rw [hw2];simp)
   clear hw2 hW1 c0 c1 c2 c3 c4 c5 c6 c7
   have HBB:=Ak (show Below w1.heap.size w1 w2 from Below.trans HBW1.out (HB2.out.mono (by have:=HZW1.out;omega)))
   have HO2:=Ak (show w2.heap[w1.heap.size]?=some (outK t.kind (.slice none 0 0)) from (HB2.out.block _ (by have:=HZW1.out;omega)).trans HO1.out)
   gi_wp2
   obtain ⟨q,hq⟩:=(TmS.stay HIN.out HSS.out (Below.trans (HB1.out.mono hg) (HBB.out.mono (by omega)))).kid
   have HQ:=Ak hq
   have hlen:=HIN.out.len
   have hzz:=blk_lt HZX2.out
   have hzs:w1.heap.size<W1.heap.size:=by have:=HZW1.out;omega
   have hzs2:W1.heap.size<w2.heap.size:=hzz
   clear hq
   refine wpIn_rangeFunc_ownH (F:=Fence.wide) rfl (by decide) (gf:=117) (lb:=#[.pointer (some ⟨W1.heap.size,0,none⟩)]) rfl trivial (enters_of Try.func117 (by kernel_rfl) rfl)
    (kids_stops (5 - 1) (by decide) p t q W1.heap.size w2.heap.size (fun k=>k=w1.heap.size) S w2 HZX2.out hzz (Nat.le_refl _) (fun e=>by omega) (fun k hk=>by have hk:=HSS.out _ hk;exact ⟨by omega,fun h=>by omega⟩) (by omega) (fun i x hx=>(HQ.out i x hx).1))
    kpG_trans (kpG_put (Nat.le_refl _)) (Below.refl _ _) (fun _=>rfl)
    (fun pre W=>∃ V,W.heap[w1.heap.size]?=some (outK t.kind V)∧KidsT W S w2.heap.size V (rebKids RF t b pre)∧Chg (fun k=>k=w1.heap.size) w2 W)
    (fun _ _ _=>False)
    (fun pre X Y row hs hg hr=>by obtain ⟨V,h1,h2,h3⟩:=hs;exact ⟨V,(hg.block _ (blk_lt h1) (fun e=>by have:=(hr _ e.symm).1;omega)).trans h1,h2.grown hg (fun r e=>row_no (hr r e).2),chg_grown h3 hg (fun r e=>(hr r e).1)⟩)
    (fun c pre X Y row hs hg hr=>hs)
    ⟨.slice none 0 0,HO2.out,KidsT.nil _ _ _,Chg.refl _ _⟩
    (fun x a' W=>∃ Bx,w2.heap.size≤Bx∧W.heap[Bx]?=some (tmO (q x) (kidF t x))∧(∀ V,W.heap[w1.heap.size]?=some (outK t.kind V)→V.ownBlock≠some Bx)∧a' = { tmps:=#[tmV p t,.int .i64 b,vrIl gl,.pointer (some ⟨w.heap.size,0,none⟩),.pointer (some ⟨w.heap.size+1,0,none⟩),.pointer (some ⟨w.heap.size+1+1,0,none⟩),.pointer (some ⟨w.heap.size+1+1+1,0,none⟩),.pointer (some ⟨w1.heap.size,0,none⟩),.int .i64 (moreZ t x),.pointer (some ⟨Bx,0,none⟩),tmV p t,.bool false,undef,undef,undef,undef,.pointer (some ⟨w.heap.size,0,none⟩),.int .i64 t.kind,.agg #[.int .i64 t.kind,.int .i64 0,.string ⟨#[]⟩,.int .i64 0,.int .i64 0,.slice none 0 0,.slice none 0 0,.slice none 0 0],tmV p t,.func (.func 117) #[] #[.pointer (some ⟨W1.heap.size,0,none⟩)],.int .i64 (moreZ t x),tmV (q x) (kidF t x),undef,undef,undef,undef,undef,undef,undef,undef,undef,undef,undef,undef,undef,undef],defers:=[] })
    (fun x a' _ X Y row hs hg hr=>by
     obtain ⟨Bx,h1,h2,h3,h4⟩:=hs
     refine ⟨Bx,h1,(hg.block _ (blk_lt h2) (fun e=>by obtain ⟨o,ho,hc⟩:=(hr _ e.symm).2;rw [h2] at ho;cases ho;cases hc)).trans h2,fun V hV=>?_,h4⟩
     by_cases hz:w1.heap.size<X.heap.size
     ·exact h3 V ((hg.block _ hz (fun e=>by have:=(hr _ e.symm).1;omega)).symm.trans hV)
     ·exact absurd (blk_lt h2) (by omega))
    ?assign ?body ?done ?stop
   case assign =>
    rintro l pre x W K ⟨V,hVO,hKT,hCW⟩ hK
    dsimp only [encK,tmV]
    have hb1:Below W.heap.size W (W.alloc (tmO (q x) (kidF t x))):=below_alloc (Below.refl _ _) _
    have HKK:=Ak (hK { tmps:=#[tmV p t,.int .i64 b,vrIl gl,.pointer (some ⟨w.heap.size,0,none⟩),.pointer (some ⟨w.heap.size+1,0,none⟩),.pointer (some ⟨w.heap.size+1+1,0,none⟩),.pointer (some ⟨w.heap.size+1+1+1,0,none⟩),.pointer (some ⟨w1.heap.size,0,none⟩),.int .i64 (moreZ t x),.pointer (some ⟨W.heap.size,0,none⟩),tmV p t,.bool false,undef,undef,undef,undef,.pointer (some ⟨w.heap.size,0,none⟩),.int .i64 t.kind,.agg #[.int .i64 t.kind,.int .i64 0,.string ⟨#[]⟩,.int .i64 0,.int .i64 0,.slice none 0 0,.slice none 0 0,.slice none 0 0],tmV p t,.func (.func 117) #[] #[.pointer (some ⟨W1.heap.size,0,none⟩)],.int .i64 (moreZ t x),tmV (q x) (kidF t x),undef,undef,undef,undef,undef,undef,undef,undef,undef,undef,undef,undef,undef,undef],defers:=[] } _ (KeepsFrom.of_chg (Chg.of_below (S:=fun _=>False) hb1) (fun k h=>h.elim)) ⟨hb1.size,fun k hk _=>hb1.block k (by have:=hCW.size;omega)⟩ ⟨V,blk_alloc hVO _,hKT.later hb1,chg_trans hCW (Chg.of_below hb1)⟩
     ⟨W.heap.size,hCW.size,blk_new _ _,fun V' hV'=>by
      have e1:=(blk_alloc hVO (tmO (q x) (kidF t x))).symm.trans hV'
      obtain rfl:V=V':=by injection e1 with e1;injection e1 with e1;injection e1 with e1;simpa using e1
      obtain ⟨cells,qq,ho,_⟩:=hKT
      intro e
      have:=own_lt ho _ e
      omega,rfl⟩)
    clear hK hKT hCW hVO hb1
    gi_wp2
    exact HKK.out
   case body =>
    rintro l pre x a' W hl ⟨r,hr⟩ ⟨V,hVO,hKT,hCW⟩ ⟨Bx,hBx,bX,hVB,rfl⟩ hlt
    have hVB2:=hVB V hVO
    obtain ⟨cells,qq,hown,hkids⟩:=hKT
    obtain ⟨A9,c9,rfl⟩:=own_slice hown
    have hszW:=hCW.size
    have hn3:=nK_le3 t
    have HPL:=Ak (rebKids_len RF t b pre)
    have hmz:=moreZ_in t x
    have HDK:=Ak (depth_kid t x)
    have hbm:0≤b+moreZ t x∧b+moreZ t x≤2000000:=by omega
    have st:∀ j,j<w1.heap.size→W.heap[j]?=w1.heap[j]?:=fun j h1=>(hCW.block j (by omega) (by omega)).trans (HBB.out.block j h1)
    have hX1:=(st _ (by omega)).trans HX11.out
    have hX2:=(st _ (by omega)).trans HX21.out
    have HIH:=Ak (show ∀ w',W.heap.size≤w'.heap.size→(∀ k,k<g1→w'.heap[k]?=W.heap[k]?)→Calls Try.prog 60 #[tmV (q x) (kidF t x),.int .i64 (b+moreZ t x),vrIl gl] w' (TmGot w' S (rebP RF (kidF t x) (b+moreZ t x))) from fun w' hz hs=>by
     have hs2:∀ k,k<g1→w'.heap[k]?=w.heap[k]?:=fun k hk=>(hs k hk).trans ((st k (by omega)).trans (HB1.out.block k (by omega)))
     have hs3:∀ k,k<g1→w'.heap[k]?=w2.heap[k]?:=fun k hk=>(hs2 k hk).trans ((HBB.out.block k (by omega)).trans (HB1.out.block k (by omega))).symm
     exact IH.out (kidF t x) (by have:=kidF_lt t x;have:=HNN.out;omega) (q x) (b+moreZ t x) w' (by omega) (by have:=HBD.out;have:=HDK.out;omega) (by omega) ((HQ.out x _ (kidF_get t x)).2.same fun k hk _=>hs3 k (Nat.lt_of_lt_of_le (HSS.out _ hk) h01)) (HRP.out _ _ HR.out hs2))
    have HKID:=Ak hkids
    have HOWN:=Ak hown
    have HBX:=Ak bX
    have HVO:=Ak hVO
    have HCW:=Ak hCW
    obtain ⟨L,hL⟩:∃ L,(rebKids RF t b pre).length=L:=⟨_,rfl⟩
    have hL3:L≤3:=by rw [← hL,HPL.out];omega
    have HLE:=Ak hL
    clear st hl hVB hkids hown bX hVO hCW
    rw [hL] at hVB2 HOWN HVO HKID
    clear hL
    refine wpIn_block ?_
    refine rb_region ?hq W S w1.heap.size Bx (w.heap.size+1) (w.heap.size+1+1) w2.heap.size g0 g1 L c9 A9 cells t.kind b (moreZ t x) (q x) (kidF t x) (rebP RF (kidF t x) (b+moreZ t x)) (vrIl gl) HSS.out HVO.out HBX.out hX1 hX2 HOWN.out (by omega) (by omega) (by omega) hVB2 (by omega) (by omega) (by omega) (by omega) (by omega) (by omega) HIH.out ?_
    case hq =>
     rintro ⟨a1,wx,h⟩
     exact h
    intro w' u30 u32 u33 u34 O9 O11 v12 O12 v14 O14 hch _ _ h11 _ h12 hO12 h14 _ hap
    have hfin:=reb_round HLE.out HKID.out HOWN.out hch h12 hO12 (fun h=>hap _ h h14.2) (by omega) (by omega) (by omega) HSS.out
    have hsn:=rebKids_snoc RF t b pre x
    have hz':=hch.size
    have hC2:Chg (fun k=>k=w1.heap.size) w2 w':=⟨hch.os.trans HCW.out.os,hch.tape.trans HCW.out.tape,hch.output.trans HCW.out.output,Nat.le_trans HCW.out.size hch.size,fun k hk hn=>(hch.block k (by omega) (fun e=>e.elim (fun e=>by have:=own_base HOWN.out k e;omega) hn)).trans (HCW.out.block k hk hn)⟩
    exact ⟨⟨hch.size,fun k o hBk ho hc=>(hch.block k (blk_lt ho) (fun e=>e.elim (fun e=>own_cells HOWN.out e ho hc) (fun e=>by have e:k=w1.heap.size:=e;omega))).trans ho⟩,⟨hch.size,fun k hk hg=>hch.block k (by omega) (fun e=>e.elim (fun e=>by have:=own_base HOWN.out k e;omega) hg)⟩,u33,h14.1,by rw [hsn];exact hfin,hC2⟩
   case stop =>
    rintro D c pre WW hD hSp hf hKW
    exact hf.elim
   case done =>
    rintro D ys W hD rfl ⟨V,hVO,hKT,hCW⟩ hK
    obtain ⟨K9,e9,rfl,hterm⟩:=hKT.term
    have HTM:=Ak (hterm t.kind 0 noName ⟨by decide,by decide,by simp⟩)
    have hszW:=hCW.size
    have hres:=(hCW.block (w.heap.size+1+1+1) (by omega) (by omega)).trans ((HBB.out.block _ (by omega)).trans HX31.out)
    have HRES:=Ak hres
    have HKD:=Ak hK
    have HCW:=Ak hCW
    obtain ⟨o0,o1,o2,o3,o4,o5,o6,o7,-,-,-,-,-,-,-,-⟩:=row8c hVO
    obtain ⟨r0,r1,r2,r3,r4,r5,r6,r7,f0,f1,f2,f3,f4,f5,f6,f7⟩:=row8c hres
    have hz5:w1.heap.size<W.heap.size:=by omega
    have hne5:w1.heap.size≠w.heap.size+1+1+1:=by omega
    obtain ⟨m9,hm9⟩:∃ m,(rebKids RF t b (List.finRange (nK t))).length=m:=⟨_,rfl⟩
    have HM9:=Ak hm9
    rw [hm9] at o7
    clear hVO hKT hCW hK hterm hres hm9
    gi_wp2
    have hch:=chg_set8 W (w.heap.size+1+1+1) (.int .i64 t.kind) (.int .i64 0) (.string ⟨#[]⟩) (.int .i64 0) (.int .i64 0) (.slice none 0 0) (.slice none 0 0) (.slice K9 m9 e9)
    have hx5:=set8 (a0:=.int .i64 t.kind) (a1:=.int .i64 0) (a2:=.string ⟨#[]⟩) (a3:=.int .i64 0) (a4:=.int .i64 0) (a5:=.slice none 0 0) (a6:=.slice none 0 0) (a7:=.slice K9 m9 e9) HRES.out
    obtain ⟨WW,hWW⟩:∃ WW,WW=((((((((W.setCell ⟨w.heap.size+1+1+1,0,none⟩ (.int .i64 t.kind)).setCell ⟨w.heap.size+1+1+1,1,none⟩ (.int .i64 0)).setCell ⟨w.heap.size+1+1+1,2,none⟩ (.string ⟨#[]⟩)).setCell ⟨w.heap.size+1+1+1,3,none⟩ (.int .i64 0)).setCell ⟨w.heap.size+1+1+1,4,none⟩ (.int .i64 0)).setCell ⟨w.heap.size+1+1+1,5,none⟩ (.slice none 0 0)).setCell ⟨w.heap.size+1+1+1,6,none⟩ (.slice none 0 0)).setCell ⟨w.heap.size+1+1+1,7,none⟩ (.slice K9 m9 e9)):=⟨_,rfl⟩
    rw [← hWW] at hch hx5 ⊢
    clear hWW
    have hszV:=hch.size
    have hKW:WW.heap[D]?=some (.deferred (some [])):=(hch.block D (blk_lt HKD.out) (by omega)).trans HKD.out
    have hp:=chg_put WW D (.deferred none)
    have hx6:(WW.putObj D (.deferred none)).heap[w.heap.size+1+1+1]?=some (.cells #[.int .i64 t.kind,.int .i64 0,.string ⟨#[]⟩,.int .i64 0,.int .i64 0,.slice none 0 0,.slice none 0 0,.slice K9 m9 e9] 28 (0,0)):=(hp.block _ (blk_lt hx5) (by omega)).trans hx5
    refine ⟨by simp,.inl ⟨_,_,rfl,run_takeDeferred hKW,?_⟩⟩
    refine ⟨_,results_c rfl _ _ (w.heap.size+1+1+1) 28 #[.int .i64 t.kind,.int .i64 0,.string ⟨#[]⟩,.int .i64 0,.int .i64 0,.slice none 0 0,.slice none 0 0,.slice K9 m9 e9] (0,0) _ rfl hx6 Try.underlying28 rfl (by kernel_rfl),?_⟩
    rw [HE.out]
    have hnD:∀ k,CellsB W k→k≠D:=by
     rintro k ⟨cs,tt,fr,hk⟩ e
     rw [e,HKD.out] at hk
     cases hk
    refine ⟨⟨none,0,none,0,K9,e9⟩,by unfold tmV;rw [← HM9.out];rfl,((HTM.out.cells).same fun k hk hz=>(hp.block k (by omega) (hnD k hk.2)).trans (hch.block k hz (by rcases hk.1 with h | h;have:=HSS.out _ h;omega;omega))).mono fun k hk _=>hk.1.imp id fun h=>by omega,?_⟩
    refine Chg.trans_below (S:=fun k=>k=w1.heap.size∨k=w.heap.size+1+1+1∨k=D) (Below.trans HB1.out (HBB.out.mono HB1.out.size)) ?_ (fun k h=>by omega) (by have:=HB1.out.size;omega)
    exact chg_trans (HCW.out.mono fun k h=>.inl h) (chg_trans (hch.mono fun k h=>.inr (.inl h)) (hp.mono fun k h=>.inr (.inr h)))
end Go.Proofs.Ytdboloabpjmgaaa

namespace Go.Proofs.Ytdboloabpjmgaaa
open Go.RowKit Go.Proofs.YtdboloabpjmgaaaW.PrintWords Go.RegionInvYtdboloabpjmgaaa Go.RegionEYtdboloabpjmgaaa

theorem reb_instl (S:Nat→Prop) (g0 g1 gl B:Nat) (vs:List Lv) (Av:Option Addr) (nv cv:Nat) (t:Tm) (p:Pl) (w:World) (hok:okT t) (hnv:nv=vs.length) (hn50:nv≤1000) (h01:g0≤g1) (hS:∀ k,S k→k<g0) (hgl:gl<g1) (hB:B≤g1) (hg1:g1≤w.heap.size)
  (hg:w.heap[gl]?=some (.cells #[.slice Av nv cv] 23 (0,0))) (hvs:LvIn w B Av cv (.mk 0 0 vs)) (hin:TmS w S p t) :
  Calls Try.prog 60 #[tmV p t,.int .i64 0,.func (.func 87) #[] #[.pointer (some ⟨gl,0,none⟩)]] w (TmGot w S (rebP (lvF vs) t 0)):=
 reb_Il (lvF vs) (fun W=>W.heap[gl]?=some (.cells #[.slice Av nv cv] 23 (0,0))∧LvIn W B Av cv (.mk 0 0 vs)) S g0 g1 h01 hS gl
  (fun W W' h hs=>⟨(hs gl hgl).trans h.1,LvS.same h.2 fun k hk _=>hs k (Nat.lt_of_lt_of_le hk hB)⟩)
  (fun t p b w _ _ _ hg1 hin hR=>nodl_calls vs gl Av nv cv b S t p w hnv hn50 hR.1 (hR.2.mono (Nat.le_trans hB hg1)) hin)
  _ t (Nat.lt_succ_self _) p 0 w (Int.le_refl _) (by have:=hok.2;omega) hg1 hin ⟨hg,hvs⟩
set_option maxRecDepth 100000 in
set_option maxHeartbeats 4000000 in
theorem instLv_calls (S:Nat→Prop) (g0:Nat) (hS:∀ k,S k→k<g0) (t:Tm) (p:Pl) (Av:Option Addr) (nv cv:Nat) (vs:List Lv) (w:World) (hg0:g0≤w.heap.size) (hnv:nv=vs.length) (hn50:nv≤1000) (hin:TmS w S p t) (hvs:LvIn w w.heap.size Av cv (.mk 0 0 vs)) :
  Calls Try.prog 50 #[tmV p t,.slice Av nv cv] w (TmGot w S (InstLvT t vs)):=by
 obtain ⟨W,hW⟩:∃ W,W=((w.alloc (tmO p t)).alloc (.cells #[.slice Av nv cv] 23 (0,0))).alloc (outK 0 (.slice none 0 0)):=⟨_,rfl⟩
 have hb:Below w.heap.size w W:=by rw [hW];exact below_alloc (below_alloc (below_alloc (Below.refl _ _) _) _) _
 have HX:=Ak (show W.heap[w.heap.size]?=some (tmO p t) by rw [hW];exact blk_alloc (box0 w _ _) _)
 have HX1:=Ak (show W.heap[w.heap.size+1]?=some (.cells #[.slice Av nv cv] 23 (0,0)) by rw [hW];exact blk_alloc (box1 w _ _) _)
 have HX2:=Ak (show W.heap[w.heap.size+1+1]?=some (outK 0 (.slice none 0 0)) by
  rw [hW]
  have:=blk_new ((w.alloc (tmO p t)).alloc (.cells #[.slice Av nv cv] 23 (0,0))) (outK 0 (.slice none 0 0))
  simp only [World.size_alloc] at this
  exact this)
 have HZ:=Ak (show W.heap.size=w.heap.size+3 by rw [hW];simp)
 have HB:=Ak hb
 have HIN:=Ak (TmS.stay hin hS (hb.mono hg0))
 have HVS:=Ak (hvs.stay hb)
 have HSS:=Ak hS
 have HGE:=Ak (great_eq t)
 have HRB:=Ak (show okT t→∀ w1,w.heap.size+3≤w1.heap.size→w1.heap[w.heap.size+1]?=some (.cells #[.slice Av nv cv] 23 (0,0))→LvIn w1 w.heap.size Av cv (.mk 0 0 vs)→TmS w1 S p t→Calls Try.prog 60 #[tmV p t,.int .i64 0,.func (.func 87) #[] #[.pointer (some ⟨w.heap.size+1,0,none⟩)]] w1 (TmGot w1 S (rebP (lvF vs) t 0)) from
  fun hok w1 hz hg hl hi=>reb_instl S g0 (w.heap.size+3) (w.heap.size+1) w.heap.size vs Av nv cv t p w1 hok hnv hn50 (by omega) hS (by omega) (by omega) hz hg hl hi)
 clear hin hvs hb hS hnv hn50
 unfold tmV
 unfold tmO at hW
 go_enter Try.func50,Try.ntmps50
 go_upto_region 1 with (fail)
 rw [← hW]
 clear hW
 by_cases hok:okT t
 ·have HE:=Ak (show InstLvT t vs=rebP (lvF vs) t 0 from if_pos hok)
  have HG:=Ak (show greatB t=false by rw [HGE.out];simp [hok])
  have HCA:=Ak (HRB.out hok)
  obtain ⟨y,hy⟩:∃ y,y=rebP (lvF vs) t 0:=⟨_,rfl⟩
  rw [← hy] at HE HCA
  clear hok HRB hy
  go_wp2_with (first
   | (refine wpList_load_row rfl 28 _ rfl (w.heap.size) rfl 28 _ (0,0) _ HX.out Try.underlying28 rfl (by kernel_rfl) ?_)
   | (refine wpList_load_row rfl 28 _ rfl (w.heap.size) rfl 28 _ (0,0) _ HX3.out Try.underlying28 rfl (by kernel_rfl) ?_)
   | (go_at_call 55;go_must (refine (great_calls t p W (TmS.all HIN.out)).mono ?_;rintro e w2 ⟨rfl,hb⟩;rw [HG.out];have HX3:=Ak ((hb.block _ (blk_lt HX.out)).trans HX.out);have HX13:=Ak ((hb.block _ (blk_lt HX1.out)).trans HX1.out);have HX23:=Ak ((hb.block _ (blk_lt HX2.out)).trans HX2.out);have HB2:=Ak (below_then HB.out HB.out.size hb);have HIN2:=Ak (TmS.stay HIN.out HSS.out (hb.mono (Nat.le_trans hg0 HB.out.size)));have HVS2:=Ak (HVS.out.stay (hb.mono HB.out.size));have HZ2:=Ak (show w.heap.size+3≤w2.heap.size by have:=hb.size;have:=HZ.out;omega);clear hb))
   | (go_at_call 60;go_must (refine (HCA.out w2 HZ2.out HX13.out HVS2.out HIN2.out).mono ?_;rintro e w3 ⟨q9,rfl,ht9,hb3⟩;have HT9:=Ak ht9;have HX24:=Ak ((hb3.block _ (blk_lt HX23.out)).trans HX23.out);have HB3:=Ak (below_then HB2.out HB2.out.size hb3);obtain ⟨r0,r1,r2,r3,r4,r5,r6,r7,f0,f1,f2,f3,f4,f5,f6,f7⟩:=row8c HX24.out;clear ht9 hb3;unfold tmV)))
  refine bodyPost_ret (results_c rfl _ _ (w.heap.size+1+1) 28 #[.int .i64 y.kind,.int .i64 y.num,.string y.name,.int .i64 y.lv.kind,.int .i64 y.lv.num,.slice q9.A y.lv.kids.length q9.c,.slice q9.B y.ls.length q9.d,.slice q9.K y.kids.length q9.e] (0,0) _ rfl (set8 HX24.out) Try.underlying28 rfl (by kernel_rfl)) rfl ?_
  rw [HE.out]
  have hz2:=HZ2.out
  exact tm_retS (g:=w.heap.size+1+1) (m:=w2.heap.size) HT9.out (chg_set8 w3 (w.heap.size+1+1) (.int .i64 y.kind) (.int .i64 y.num) (.string y.name) (.int .i64 y.lv.kind) (.int .i64 y.lv.num) (.slice q9.A y.lv.kids.length q9.c) (.slice q9.B y.ls.length q9.d) (.slice q9.K y.kids.length q9.e)) hg0 (by omega) (by omega) HB3.out HSS.out
 ·have HE:=Ak (show InstLvT t vs=zeroT from if_neg hok)
  have HG:=Ak (show greatB t=true by rw [HGE.out];simp [hok])
  clear hok HRB
  go_wp2_with (first
   | (refine wpList_load_row rfl 28 _ rfl (w.heap.size) rfl 28 _ (0,0) _ HX.out Try.underlying28 rfl (by kernel_rfl) ?_)
   | (go_at_call 55;go_must (refine (great_calls t p W (TmS.all HIN.out)).mono ?_;rintro e w2 ⟨rfl,hb⟩;rw [HG.out];have HX23:=Ak ((hb.block _ (blk_lt HX2.out)).trans HX2.out);have HB2:=Ak (below_then HB.out HB.out.size hb);obtain ⟨r0,r1,r2,r3,r4,r5,r6,r7,f0,f1,f2,f3,f4,f5,f6,f7⟩:=row8c HX23.out;clear hb)))
  refine bodyPost_ret (results_c rfl _ _ (w.heap.size+1+1) 28 #[.int .i64 0,.int .i64 0,.string ⟨#[]⟩,.int .i64 0,.int .i64 0,.slice none 0 0,.slice none 0 0,.slice none 0 0] (0,0) _ rfl (set8 HX23.out) Try.underlying28 rfl (by kernel_rfl)) rfl ?_
  rw [HE.out]
  exact tm_retS (S:=S) (g0:=g0) (y:=zeroT) (q:=plz) (g:=w.heap.size+1+1) (m:=w.heap.size+3) (zeroT_flat _ _) (chg_set8 w2 (w.heap.size+1+1) (.int .i64 0) (.int .i64 0) (.string ⟨#[]⟩) (.int .i64 0) (.int .i64 0) (.slice none 0 0) (.slice none 0 0) (.slice none 0 0)) hg0 (by omega) (by omega) HB2.out HSS.out
end Go.Proofs.Ytdboloabpjmgaaa

namespace Go.Proofs.Ytdboloabpjmgaaa
open Go.RowKit Go.Proofs.YtdboloabpjmgaaaW.PrintWords Go.RegionInvYtdboloabpjmgaaa Go.RegionEYtdboloabpjmgaaa

theorem least_iff {f:Nf} (hf:NfOk f) {b:Int}:leastN f≤b↔f.1≤b∧∀ j:Nat,atP f.2 j≤b:=by
 have h0:=hf.1
 have hge:=least_ge f
 exact ⟨fun h=>⟨by omega,fun j=>by have:=least_at (f:=f) j (by omega);omega⟩,fun h=>least_le h.1 h.2⟩
theorem least_in {f:Nf} (hf:NfOk f):0≤leastN f∧leastN f≤1099511627776:=by
 have hge:=least_ge f
 have h0:=hf.1
 exact ⟨by omega,least_le hf.2.1 fun j=>(atP_ok hf.2.2.1 j).2⟩
theorem atP_in2 {f:Nf} (hf:NfOk f) (j:Nat):-1≤atP f.2 j∧atP f.2 j≤1099511627776:=atP_ok hf.2.2.1 j
theorem least_plus {f:Nf} (hf:NfOk f) {k:Int} (hk:0≤k) (hk1:k≤1099511627776) {b:Int}:leastN (plusN k f)≤b↔min 1099511627776 (leastN f+k)≤b:=by
 have hp:=plusN_ok hf hk hk1
 have h0:=hf.1
 have h1:=hf.2.1
 have hl:=least_in hf
 rw [least_iff hp,plus_fst]
 by_cases hb:1099511627776≤b
 ·exact ⟨fun _=>by omega,fun _=>⟨by omega,fun j=>by have:=atP_in2 hp j;omega⟩⟩
 ·constructor
  ·rintro ⟨h2,h3⟩
   have:leastN f≤b - k:=(least_iff hf).2 ⟨by omega,fun j=>by
    have h4:=h3 j
    have h5:=atP_in2 hf j
    rw [atP_plus] at h4
    unfold addN at h4
    split at h4 <;> omega⟩
   omega
  ·intro h
   have h2:=(least_iff hf (b:=b - k)).1 (by omega)
   refine ⟨by omega,fun j=>?_⟩
   have h4:=h2.2 j
   have h5:=atP_in2 hf j
   rw [atP_plus]
   unfold addN
   split <;> omega
theorem least_or {f g:Nf} (hf:NfOk f) (hg:NfOk g) {b:Int}:leastN (orN f g)≤b↔leastN f≤b∧leastN g≤b:=by
 rw [least_iff (orN_ok hf hg),least_iff hf,least_iff hg,or_fst]
 constructor
 ·rintro ⟨h1,h2⟩
  exact ⟨⟨by omega,fun j=>by have:=h2 j;rw [atP_or] at this;omega⟩,⟨by omega,fun j=>by have:=h2 j;rw [atP_or] at this;omega⟩⟩
 ·rintro ⟨⟨h1,h2⟩,h3,h4⟩
  exact ⟨by omega,fun j=>by rw [atP_or];have:=h2 j;have:=h4 j;omega⟩
def plusR (n:Int) (f:Nf):Nf:=(if f.2=[]∨0<f.1 then min 1099511627776 (f.1+n) else f.1,f.2.map (addN n))
theorem plusR_ok {n:Int} {f:Nf} (h:NfOk f) (h0:0≤n) (h1:n≤1099511627776):NfOk (plusR n f):=by
 have hp:=plusN_ok h h0 h1
 refine ⟨?_,?_,hp.2.2.1,hp.2.2.2⟩
 ·unfold plusR;simp only [];have:=h.1;split <;> omega
 ·unfold plusR;simp only [];have:=h.2.1;split <;> omega
theorem eqR_short {f:Nf} (hf:NfOk f):eqR (shortN f) f:=⟨atP_short hf,least_short hf⟩
theorem eqR_or {f f' g g':Nf} (hf:NfOk f) (hf':NfOk f') (hg:NfOk g) (hg':NfOk g') (h1:eqR f f') (h2:eqR g g'):eqR (orN f g) (orN f' g'):=
 ⟨fun j=>by rw [atP_or,atP_or,h1.1,h2.1],le_ext fun b=>by rw [least_or hf hg,least_or hf' hg',h1.2,h2.2]⟩
theorem eqR_plus {f f':Nf} {n:Int} (hf:NfOk f) (hf':NfOk f') (h0:0≤n) (h1:n≤1099511627776) (h:eqR f f'):eqR (plusN n f) (plusN n f'):=
 ⟨fun j=>by rw [atP_plus,atP_plus,h.1],le_ext fun b=>by rw [least_plus hf h0 h1,least_plus hf' h0 h1,h.2]⟩
theorem short_last {f:Nf} (h:(shortN f).2≠[]):0≤rd (shortN f).2 (((shortN f).2.length - 1:Nat):Int):=by
 have hle:=trim_le f.2 f.2.length
 have hl:(shortN f).2.length=trimTo f.2 f.2.length:=by simp [shortN];omega
 have hp:0<trimTo f.2 f.2.length:=by
  rcases Nat.eq_zero_or_pos (trimTo f.2 f.2.length) with h0 | h0
  ·exact absurd (List.eq_nil_of_length_eq_zero (by omega)) h
  ·exact h0
 have h1:=trim_last f.2 f.2.length hp
 rw [hl]
 have e:(shortN f).2=f.2.take (trimTo f.2 f.2.length):=rfl
 rw [e,rd_nat',List.getD_eq_getElem?_getD,List.getElem?_take,if_pos (by omega),← List.getD_eq_getElem?_getD,← rd_nat']
 exact h1
theorem eqR_plusR {f:Nf} {n:Int} (hf:NfOk f) (h0:0≤n) (h1:n≤1099511627776):eqR (plusR n (shortN f)) (plusN n (shortN f)):=by
 have hs:=short_ok hf
 have hp:=plusN_ok hs h0 h1
 have hr:=plusR_ok hs h0 h1
 have ha:∀ j:Nat,atP (plusR n (shortN f)).2 j=atP (plusN n (shortN f)).2 j:=fun j=>rfl
 refine ⟨ha,?_⟩
 by_cases hc:(shortN f).2=[]∨0<(shortN f).1
 ·have:plusR n (shortN f)=plusN n (shortN f):=by unfold plusR plusN;rw [if_pos hc]
  rw [this]
 ·have hc1:(shortN f).2≠[]:=fun e=>hc (.inl e)
  have hc2:(shortN f).1=0:=by have:=hs.1;have:¬ 0<(shortN f).1:=fun e=>hc (.inr e);omega
  have hl:=short_last hc1
  have hlen:0<(shortN f).2.length:=List.length_pos_iff.2 hc1
  have hat:atP (shortN f).2 (((shortN f).2.length - 1:Nat):Int)=rd (shortN f).2 (((shortN f).2.length - 1:Nat):Int):=atP_lt (by omega)
  apply le_ext
  intro b
  rw [least_iff hr,least_iff hp]
  have e1:(plusR n (shortN f)).1=0:=by unfold plusR;simp only [];rw [if_neg hc,hc2]
  rw [e1,plus_fst,hc2]
  constructor
  ·rintro ⟨h2,h3⟩
   refine ⟨?_,h3⟩
   have h4:=h3 ((shortN f).2.length - 1)
   rw [ha,atP_plus,hat] at h4
   unfold addN at h4
   rw [if_pos hl] at h4
   omega
  ·rintro ⟨h2,h3⟩
   exact ⟨by omega,h3⟩
theorem short_plus {f:Nf} {n:Int} (hf:NfOk f) (h0:0≤n) (h1:n≤1099511627776):shortN (plusR n (shortN f))=shortN (plusN n f):=by
 have hs:=short_ok hf
 have e1:=eqR_plusR hf h0 h1
 have e2:=eqR_plus hs hf h0 h1 (eqR_short hf)
 exact (short_eq (plusR_ok hs h0 h1) (plusN_ok hf h0 h1)).2 ⟨fun j=>(e1.1 j).trans (e2.1 j),e1.2.trans e2.2⟩
theorem short_or {f g:Nf} (hf:NfOk f) (hg:NfOk g):shortN (orN (shortN f) (shortN g))=shortN (orN f g):=
 (short_eq (orN_ok (short_ok hf) (short_ok hg)) (orN_ok hf hg)).2 (eqR_or (short_ok hf) hf (short_ok hg) hg (eqR_short hf) (eqR_short hg))
theorem short_num (n:Int):shortN (n,[])=(n,[]):=by unfold shortN;simp [trimTo]
theorem short_var (i:Nat):shortN (0,List.replicate i (-1) ++ [0])=(0,List.replicate i (-1) ++ [0]):=by
 have hr:rd (List.replicate i (-1) ++ [0]:List Int) (i:Nat)=0:=by rw [rd_nat',List.getD_eq_getElem?_getD,List.getElem?_append_right (by simp)];simp
 have ht:trimTo (List.replicate i (-1) ++ [0]:List Int) (List.replicate i (-1) ++ [0]:List Int).length=i+1:=by
  rw [List.length_append,List.length_replicate,List.length_singleton,trimTo,hr];rfl
 unfold shortN
 simp only [ht]
 rw [List.take_of_length_le (by simp)]
 congr 1
 split <;> rfl
def vlv (vs:List Lv) (i:Nat):Lv:=if i<vs.length then lvAt vs i else .mk 2 i []
def accN (c:Int) (K:List Int) (vs:List Lv):Nat→Nf
 | 0=>(c,[])
 | i+1=>if rd K (i:Nat)<0 then accN c K vs i else orN (accN c K vs i) (plusN (rd K (i:Nat)) (sumP (vlv vs i)))
theorem varN_vlv (vs:List Lv) (i:Nat):varN (vs.map sumP) i=sumP (vlv vs i):=by
 unfold vlv varN
 by_cases h:i<vs.length
 ·rw [if_pos h,if_pos (by simpa using h),Int.toNat_natCast,List.getD_eq_getElem?_getD,List.getElem?_map,List.getElem?_eq_getElem h]
  have:lvAt vs i=vs[i]:=lvAt_get (List.getElem?_eq_getElem h)
  rw [this];rfl
 ·rw [if_neg h,if_neg (by simpa using h),Int.toNat_natCast]
  exact (var_sum i).symm
theorem acc_ok {c:Int} {K:List Int} {vs:List Lv} (hc:0≤c∧c≤1099511627776) (hK:∀ x∈K,-1≤x∧x≤1099511627776):∀ n:Nat,n≤K.length→(∀ i<n,0≤rd K (i:Nat)→NfL (sumP (vlv vs i))) →
  NfL (accN c K vs n):=by
 intro n
 induction n with
 | zero=>intro _ _;exact ⟨⟨hc.1,hc.2,fun x hx=>by simp [accN] at hx,by simp [accN]⟩,by simp [accN]⟩
 | succ n ih =>
  intro hn hv
  have h:=ih (by omega) fun i hi=>hv i (by omega)
  rw [accN]
  split
  ·exact h
  ·rename_i h0
   have hs:=hv n (by omega) (by omega)
   have hm:rd K (n:Nat)∈K:=by rw [rd_nat',List.getD_eq_getElem?_getD,List.getElem?_eq_getElem (by omega)];exact List.getElem_mem _
   refine ⟨orN_ok h.1 (plusN_ok hs.1 (by omega) (hK _ hm).2),?_⟩
   rw [or_len]
   have h1:=h.2
   have h2:(plusN (rd K (n:Nat)) (sumP (vlv vs n))).2.length=(sumP (vlv vs n)).2.length:=by simp [plusN]
   have h3:=hs.2
   omega
theorem acc_at {c:Int} {K:List Int} {vs:List Lv} {j:Nat} {b:Int} (hb:-1≤b) (n:Nat) :
  atP (accN c K vs n).2 j≤b↔∀ i:Nat,i<n→0≤rd K (i:Nat)→addN (rd K (i:Nat)) (atP (sumP (vlv vs i)).2 j)≤b:=by
 induction n with
 | zero=>exact ⟨fun _ i hi=>by omega,fun _=>by show atP [] _≤b;rw [atP_beyond (by simp)];exact hb⟩
 | succ n ih =>
  rw [accN]
  split
  ·rename_i h0
   rw [ih]
   exact ⟨fun h i hi hk=>by rcases Nat.lt_succ_iff_lt_or_eq.1 hi with h' | rfl;exact h i h' hk;omega,fun h i hi=>h i (by omega)⟩
  ·rename_i h0
   rw [atP_or,atP_plus]
   constructor
   ·intro h i hi hk
    rcases Nat.lt_succ_iff_lt_or_eq.1 hi with h' | rfl
    ·exact (ih.1 (by omega)) i h' hk
    ·omega
   ·intro h
    have h1:=ih.2 fun i hi=>h i (by omega)
    have h2:=h n (by omega) (by omega)
    omega
theorem acc_least {c:Int} {K:List Int} {vs:List Lv} {b:Int} (hc:0≤c∧c≤1099511627776) (hK:∀ x∈K,-1≤x∧x≤1099511627776):∀ n:Nat,n≤K.length→(∀ i<n,0≤rd K (i:Nat)→NfL (sumP (vlv vs i))) →
  (leastN (accN c K vs n)≤b↔c≤b∧∀ i:Nat,i<n→0≤rd K (i:Nat)→min 1099511627776 (leastN (sumP (vlv vs i))+rd K (i:Nat))≤b):=by
 intro n
 induction n with
 | zero=>intro _ _;exact ⟨fun h=>⟨h,fun i hi=>by omega⟩,fun h=>h.1⟩
 | succ n ih =>
  intro hn hv
  have hi:=ih (by omega) fun i hi=>hv i (by omega)
  have hok:=acc_ok (c:=c) hc hK n (by omega) fun i hi=>hv i (by omega)
  rw [accN]
  split
  ·rename_i h0
   rw [hi]
   exact ⟨fun h=>⟨h.1,fun i hi hk=>by rcases Nat.lt_succ_iff_lt_or_eq.1 hi with h' | rfl;exact h.2 i h' hk;omega⟩,fun h=>⟨h.1,fun i hi=>h.2 i (by omega)⟩⟩
  ·rename_i h0
   have hs:=hv n (by omega) (by omega)
   have hm:rd K (n:Nat)∈K:=by rw [rd_nat',List.getD_eq_getElem?_getD,List.getElem?_eq_getElem (by omega)];exact List.getElem_mem _
   rw [least_or hok.1 (plusN_ok hs.1 (by omega) (hK _ hm).2),least_plus hs.1 (by omega) (hK _ hm).2,hi]
   constructor
   ·rintro ⟨⟨h1,h2⟩,h3⟩
    exact ⟨h1,fun i hi hk=>by rcases Nat.lt_succ_iff_lt_or_eq.1 hi with h' | rfl;exact h2 i h' hk;exact h3⟩
   ·rintro ⟨h1,h2⟩
    exact ⟨⟨h1,fun i hi=>h2 i (by omega)⟩,h2 n (by omega) (by omega)⟩
theorem subst_sum (fs:List Nf) {l:Lv} (h:Good l):(∀ i:Nat,0≤atP (sumP l).2 i→NfOk (varN fs i))→NfOk (ofP fs l) ∧
  (∀ (j:Nat) (b:Int),-1≤b→(atP (ofP fs l).2 j≤b↔∀ i:Nat,0≤atP (sumP l).2 i→addN (atP (sumP l).2 i) (atP (varN fs i).2 j)≤b)) ∧
  (∀ b:Int,leastN (ofP fs l)≤b↔(sumP l).1≤b∧∀ i:Nat,0≤atP (sumP l).2 i→min 1099511627776 (leastN (varN fs i)+atP (sumP l).2 i)≤b):=by
 induction h with
 | @mk k n ks h hk ih =>
  intro hv
  rcases good_cases (.mk h hk) with ⟨rfl,rfl,h0,h1⟩ | ⟨rfl,rfl,h0,h1⟩ | ⟨rfl,x,rfl,h0,h1,hx⟩ | ⟨rfl,x,y,rfl,hgx,hgy⟩
  ·rw [num_sum] at hv ⊢
   rw [ofP_num]
   have hno:∀ i:Nat,¬ 0≤atP (n,([]:List Int)).2 i:=fun i=>by rw [atP_beyond (by simp)];omega
   refine ⟨⟨h0,h1,fun x hx=>by simp at hx,by simp⟩,fun j b hb=>⟨fun _ i hi=>absurd hi (hno i),fun _=>by rw [atP_beyond (by simp)];exact hb⟩,fun b=>⟨fun h=>⟨h,fun i hi=>absurd hi (hno i)⟩,fun h=>h.1⟩⟩
  ·obtain ⟨i,rfl⟩:=Int.eq_ofNat_of_zero_le h0
   have hs:sumP (.mk 2 (i:Int) [])=(0,List.replicate i (-1) ++ [0]):=var_sum i
   rw [hs] at hv ⊢
   rw [ofP_var]
   simp only [atP_varN] at hv ⊢
   have hok:=hv i (by rw [if_pos rfl];omega)
   have hl:=least_in hok
   refine ⟨hok,fun j b hb=>⟨fun h i' hi'=>?_,fun h=>?_⟩,fun b=>⟨fun h=>⟨by omega,fun i' hi'=>?_⟩,fun h=>?_⟩⟩
   ·split at hi'
    ·rename_i e;subst e
     rw [if_pos rfl]
     have:=atP_in2 hok j
     unfold addN;split <;> omega
    ·omega
   ·have h2:=h i (by rw [if_pos rfl];omega)
    rw [if_pos rfl] at h2
    have:=atP_in2 hok j
    unfold addN at h2;split at h2 <;> omega
   ·split at hi'
    ·rename_i e;subst e
     rw [if_pos rfl];omega
    ·omega
   ·have h2:=h.2 i (by rw [if_pos rfl];omega)
    rw [if_pos rfl] at h2
    omega
  ·have hsx:sumP (.mk 3 n [x])=plusN n (sumP x):=by show ofP [] _=_;rw [ofP_succ];rfl
   have hsok:NfOk (sumP x):=ofP_ok (fun _ h=>by cases h) hx
   rw [hsx] at hv ⊢
   simp only [atP_plus] at hv ⊢
   have hpos:∀ i:Nat,0≤addN n (atP (sumP x).2 i)↔0≤atP (sumP x).2 i:=fun i=>by unfold addN;split <;> omega
   simp only [hpos] at hv ⊢
   obtain ⟨hok,hA,hL⟩:=ih x (by simp) hv
   rw [ofP_succ]
   have hp:=plusN_ok hok (show 0≤n by omega) h1
   refine ⟨hp,fun j b hb=>?_,fun b=>?_⟩
   ·rw [atP_plus]
    have hy:=atP_in2 hok j
    by_cases hbt:1099511627776≤b
    ·exact ⟨fun _ i hi=>by have:=atP_in2 (hv i hi) j;have:=atP_in2 hsok i;unfold addN;split <;> omega,fun _=>by unfold addN;split <;> omega⟩
    ·have h2:=hA j (max (-1) (b - n)) (by omega)
     have h3:addN n (atP (ofP fs x).2 j)≤b↔atP (ofP fs x).2 j≤max (-1) (b - n):=by unfold addN;split <;> omega
     rw [h3,h2]
     refine forall_congr' fun i=>forall_congr' fun hi=>?_
     have:=atP_in2 (hv i hi) j
     have:=atP_in2 hsok i
     have e:addN n (atP (sumP x).2 i)=min 1099511627776 (atP (sumP x).2 i+n):=by unfold addN;rw [if_pos hi]
     rw [e]
     unfold addN
     split <;> omega
   ·rw [least_plus hok (by omega) h1,plus_fst]
    have hl:=least_in hok
    by_cases hbt:1099511627776≤b
    ·exact ⟨fun _=>⟨by omega,fun i hi=>by omega⟩,fun _=>by omega⟩
    ·have h3:min 1099511627776 (leastN (ofP fs x)+n)≤b↔leastN (ofP fs x)≤b - n:=by omega
     rw [h3,hL]
     refine and_congr (by omega) (forall_congr' fun i=>forall_congr' fun hi=>?_)
     have:=least_in (hv i hi)
     have:=atP_in2 hsok i
     have e:addN n (atP (sumP x).2 i)=min 1099511627776 (atP (sumP x).2 i+n):=by unfold addN;rw [if_pos hi]
     rw [e]
     omega
  ·have hsx:sumP (.mk 4 n [x,y])=orN (sumP x) (sumP y):=by show ofP [] _=_;rw [ofP_max];rfl
   rw [hsx] at hv ⊢
   simp only [atP_or] at hv ⊢
   obtain ⟨hokx,hAx,hLx⟩:=ih x (by simp) fun i hi=>hv i (by omega)
   obtain ⟨hoky,hAy,hLy⟩:=ih y (by simp) fun i hi=>hv i (by omega)
   rw [ofP_max]
   refine ⟨orN_ok hokx hoky,fun j b hb=>?_,fun b=>?_⟩
   ·have h3:atP (orN (ofP fs x) (ofP fs y)).2 j≤b↔atP (ofP fs x).2 j≤b∧atP (ofP fs y).2 j≤b:=by rw [atP_or];omega
    rw [h3,hAx j b hb,hAy j b hb]
    constructor
    ·rintro ⟨h1,h2⟩ i hi
     have g1:=h1 i
     have g2:=h2 i
     have:=atP_in2 (hv i hi) j
     unfold addN at g1 g2 ⊢
     split at g1 <;> split at g2 <;> split <;> omega
    ·intro h1
     refine ⟨fun i hi=>?_,fun i hi=>?_⟩
     ·have g:=h1 i (by omega)
      unfold addN at g ⊢
      split at g <;> split <;> omega
     ·have g:=h1 i (by omega)
      unfold addN at g ⊢
      split at g <;> split <;> omega
   ·rw [least_or hokx hoky,hLx,hLy,or_fst]
    constructor
    ·rintro ⟨⟨h1,h2⟩,h3,h4⟩
     refine ⟨by omega,fun i hi=>?_⟩
     have g1:=h2 i
     have g2:=h4 i
     omega
    ·rintro ⟨h1,h2⟩
     refine ⟨⟨by omega,fun i hi=>?_⟩,by omega,fun i hi=>?_⟩
     ·have g:=h2 i (by omega);omega
     ·have g:=h2 i (by omega);omega
theorem acc_eq {vs:List Lv} {l:Lv} (hg:Good l) (hv:∀ i:Nat,0≤atP (sumP l).2 i→NfL (sumP (vlv vs i))) :
  shortN (accN (shortN (sumP l)).1 (shortN (sumP l)).2 vs (shortN (sumP l)).2.length)=shortN (ofP (vs.map sumP) l):=by
 have hok:NfOk (sumP l):=ofP_ok (fun _ h=>by cases h) hg
 have hs:=short_ok hok
 have hv':∀ i:Nat,0≤atP (sumP l).2 i→NfOk (varN (vs.map sumP) i):=fun i hi=>by rw [varN_vlv];exact (hv i hi).1
 obtain ⟨ho,hA,hL⟩:=subst_sum (vs.map sumP) hg hv'
 have hvK:∀ i<(shortN (sumP l)).2.length,0≤rd (shortN (sumP l)).2 (i:Nat)→NfL (sumP (vlv vs i)):=fun i hi h0=>hv i (by rw [← atP_short hok,atP_lt hi];exact h0)
 have hacc:=acc_ok (vs:=vs) (c:=(shortN (sumP l)).1) ⟨hs.1,hs.2.1⟩ hs.2.2.1 _ (Nat.le_refl _) hvK
 refine (short_eq hacc.1 ho).2 ⟨fun j=>le_ext fun b=>?_,le_ext fun b=>?_⟩
 ·by_cases hb:-1≤b
  ·rw [acc_at hb,hA j b hb]
   simp only [varN_vlv]
   constructor
   ·intro h i hi
    rw [← atP_short hok] at hi ⊢
    by_cases hlt:i<(shortN (sumP l)).2.length
    ·rw [atP_lt hlt] at hi ⊢;exact h i hlt hi
    ·rw [atP_beyond (by omega)] at hi;omega
   ·intro h i hi h0
    have g:=h i
    rw [← atP_short hok,atP_lt hi] at g
    exact g h0
  ·have h1:=atP_in2 hacc.1 j
   have h2:=atP_in2 ho j
   exact ⟨fun h=>by omega,fun h=>by omega⟩
 ·rw [acc_least ⟨hs.1,hs.2.1⟩ hs.2.2.1 _ (Nat.le_refl _) hvK,hL b]
  simp only [varN_vlv]
  have hall:(∀ i:Nat,i<(shortN (sumP l)).2.length→0≤rd (shortN (sumP l)).2 (i:Nat)→min 1099511627776 (leastN (sumP (vlv vs i))+rd (shortN (sumP l)).2 (i:Nat))≤b) ↔
    ∀ i:Nat,0≤atP (sumP l).2 i→min 1099511627776 (leastN (sumP (vlv vs i))+atP (sumP l).2 i)≤b:=by
   constructor
   ·intro h i hi
    rw [← atP_short hok] at hi ⊢
    by_cases hlt:i<(shortN (sumP l)).2.length
    ·rw [atP_lt hlt] at hi ⊢;exact h i hlt hi
    ·rw [atP_beyond (by omega)] at hi;omega
   ·intro h i hi h0
    have g:=h i
    rw [← atP_short hok,atP_lt hi] at g
    exact g h0
  rw [hall]
  have h0:=hok.1
  rw [short_fst]
  split
  ·rename_i hz
   constructor
   ·rintro ⟨h1,h2⟩
    refine ⟨?_,h2⟩
    obtain ⟨j,hj,hjm⟩:=List.getElem_of_mem (maxL_mem hz.1)
    have e:atP (sumP l).2 j=maxL (sumP l).2:=by rw [atP_get hj,hjm]
    have g:=h2 j (by rw [e];have:=hz.2;omega)
    have:=least_in (hv j (by rw [e];have:=hz.2;omega)).1
    have:=atP_in2 hok j
    have:=hz.2
    omega
   ·rintro ⟨h1,h2⟩
    exact ⟨by omega,h2⟩
  ·exact Iff.rfl
theorem inst_iff (vs:List Lv) {l:Lv} (h:Good l):∀ fs:List Nf,(instP vs l fs).1=0↔∀ i:Nat,i<vs.length→0≤atP (sumP l).2 i→soundB (lvAt vs i)=true:=by
 induction h with
 | @mk k n ks h hk ih =>
  intro fs
  rcases good_cases (.mk h hk) with ⟨rfl,rfl,h0,h1⟩ | ⟨rfl,rfl,h0,h1⟩ | ⟨rfl,x,rfl,h0,h1,hx⟩ | ⟨rfl,x,y,rfl,hgx,hgy⟩
  ·have hF:(insvF vs 1 n fs).1=0:=by unfold insvF;rw [if_neg (fun h=>absurd h.1 (by decide))]
   rw [instP_go hF,instKs_nil,num_sum]
   exact ⟨fun _ i _ hi=>by rw [atP_beyond (by simp)] at hi;omega,fun _=>rfl⟩
  ·obtain ⟨i,rfl⟩:=Int.eq_ofNat_of_zero_le h0
   have hs:sumP (.mk 2 (i:Int) [])=(0,List.replicate i (-1) ++ [0]):=var_sum i
   rw [hs]
   simp only [atP_varN]
   by_cases hi:i<vs.length
   ·cases hsd:soundB (lvAt vs i) with
    | true =>
     have hF:(insvF vs 2 (i:Int) fs).1=0:=by unfold insvF;rw [if_pos ⟨rfl,by omega⟩,if_pos hsd]
     rw [instP_go hF,instKs_nil]
     exact ⟨fun _ j _ hj=>by split at hj;rename_i e;subst e;exact hsd;omega,fun _=>rfl⟩
    | false =>
     have hF:(insvF vs 2 (i:Int) fs).1=1:=by unfold insvF;rw [if_pos ⟨rfl,by omega⟩,if_neg (by rw [hsd];decide)]
     rw [instP_stop (by rw [hF];decide),hF]
     exact ⟨fun h=>absurd h (by decide),fun h=>by have:=h i hi (by rw [if_pos rfl];omega);rw [hsd] at this;cases this⟩
   ·have hF:(insvF vs 2 (i:Int) fs).1=0:=by unfold insvF;rw [if_neg (fun h=>hi (by omega))]
    rw [instP_go hF,instKs_nil]
    exact ⟨fun _ j hj1 hj=>by split at hj;rename_i e;omega;omega,fun _=>rfl⟩
  ·have hsx:sumP (.mk 3 n [x])=plusN n (sumP x):=by show ofP [] _=_;rw [ofP_succ];rfl
   have hF:(insvF vs 3 n fs).1=0:=by unfold insvF;rw [if_neg (fun h=>absurd h.1 (by decide))]
   rw [instP_go hF,hsx]
   have hpos:∀ i:Nat,0≤addN n (atP (sumP x).2 i)↔0≤atP (sumP x).2 i:=fun i=>by unfold addN;split <;> omega
   simp only [atP_plus,hpos]
   have hi:=ih x (by simp) (insvF vs 3 n fs).2
   by_cases hx0:(instP vs x (insvF vs 3 n fs).2).1=0
   ·rw [instKs_go hx0,instKs_nil]
    exact ⟨fun _=>hi.1 hx0,fun _=>rfl⟩
   ·rw [instKs_stop hx0]
    exact hi
  ·have hsx:sumP (.mk 4 n [x,y])=orN (sumP x) (sumP y):=by show ofP [] _=_;rw [ofP_max];rfl
   have hF:(insvF vs 4 n fs).1=0:=by unfold insvF;rw [if_neg (fun h=>absurd h.1 (by decide))]
   rw [instP_go hF,hsx]
   have hix:=ih x (by simp) (insvF vs 4 n fs).2
   by_cases hx0:(instP vs x (insvF vs 4 n fs).2).1=0
   ·rw [instKs_go hx0]
    have hiy:=ih y (by simp) (instP vs x (insvF vs 4 n fs).2).2
    have hxx:=hix.1 hx0
    by_cases hy0:(instP vs y (instP vs x (insvF vs 4 n fs).2).2).1=0
    ·rw [instKs_go hy0,instKs_nil]
     have hyy:=hiy.1 hy0
     exact ⟨fun _ i hi hp=>by rw [atP_or] at hp;by_cases hpx:0≤atP (sumP x).2 i;exact hxx i hi hpx;exact hyy i hi (by omega),fun _=>rfl⟩
    ·rw [instKs_stop hy0]
     exact ⟨fun h=>absurd h hy0,fun h=>absurd (hiy.2 fun i hi hp=>h i hi (by rw [atP_or];omega)) hy0⟩
   ·rw [instKs_stop hx0]
    exact ⟨fun h=>absurd h hx0,fun h=>absurd (hix.2 fun i hi hp=>h i hi (by rw [atP_or];omega)) hx0⟩
end Go.Proofs.Ytdboloabpjmgaaa

namespace Go.Proofs.Ytdboloabpjmgaaa
open Go.RowKit Go.Proofs.YtdboloabpjmgaaaW.PrintWords Go.RegionInvYtdboloabpjmgaaa Go.RegionEYtdboloabpjmgaaa

def tdC (c:Int) (ks:List Int):Int:=ks.foldl (fun c k=>if c≤k then 0 else c) c
theorem tdC_zero (ks:List Int):tdC 0 ks=0:=by
 unfold tdC
 induction ks with
 | nil=>rfl
 | cons y r ih=>rw [List.foldl_cons];split <;> exact ih
theorem tdC_eq (c:Int) (ks:List Int):tdC c ks=if ∃ x∈ks,c≤x then 0 else c:=by
 induction ks with
 | nil=>rw [if_neg (by rintro ⟨x,hx,-⟩;cases hx)];rfl
 | cons y r ih =>
  have e:tdC c (y :: r)=tdC (if c≤y then 0 else c) r:=rfl
  rw [e]
  by_cases h:c≤y
  ·rw [if_pos h,tdC_zero,if_pos ⟨y,by simp,h⟩]
  ·rw [if_neg h,ih]
   by_cases h2:∃ x∈r,c≤x
   ·rw [if_pos h2,if_pos]
    obtain ⟨x,hx,h3⟩:=h2
    exact ⟨x,by simp [hx],h3⟩
   ·rw [if_neg h2,if_neg]
    rintro ⟨x,hx,h3⟩
    rcases List.mem_cons.1 hx with rfl | hx
    ·exact h h3
    ·exact h2 ⟨x,hx,h3⟩
theorem tdC_next {c:Int} {ks:List Int} {j:Nat} {y:Int} (hj:j<ks.length) (hy:y=rd ks (j:Nat)):tdC c (ks.take (j+1))=if tdC c (ks.take j)≤y then 0 else tdC c (ks.take j):=by
 rw [List.take_add_one,List.getElem?_eq_getElem hj]
 have:y=ks[j]:=by rw [hy,rd_nat',List.getD_eq_getElem?_getD,List.getElem?_eq_getElem hj];rfl
 subst this
 unfold tdC
 rw [List.foldl_append]
 rfl
theorem td_short {c:Int} {ks:List Int} (hc:0≤c):(tdC c (ks.take (trimTo ks ks.length)),ks.take (trimTo ks ks.length))=shortN (c,ks):=by
 unfold shortN
 simp only []
 congr 1
 rw [tdC_eq]
 have key:(∃ x∈ks.take (trimTo ks ks.length),c≤x)↔(ks≠[]∧c≤maxL ks):=by
  constructor
  ·rintro ⟨x,hx,h⟩
   have hm:=List.mem_of_mem_take hx
   exact ⟨(fun e=>by rw [e] at hm;cases hm),(by have:=maxL_ge x hm;omega)⟩
  ·rintro ⟨h1,h2⟩
   obtain ⟨j,hj,hjm⟩:=List.getElem_of_mem (maxL_mem h1)
   have hr:rd ks (j:Nat)=maxL ks:=by rw [rd_nat',List.getD_eq_getElem?_getD,List.getElem?_eq_getElem hj];exact hjm
   have hlt:j<trimTo ks ks.length:=by
    rcases Nat.lt_or_ge j (trimTo ks ks.length) with h | h
    ·exact h
    ·have:=trim_neg ks ks.length j h hj;omega
   refine ⟨maxL ks,?_,h2⟩
   rw [← hjm]
   exact List.mem_take_iff_getElem.2 ⟨j,by omega,rfl⟩
 by_cases h:ks≠[]∧c≤maxL ks
 ·rw [if_pos (key.2 h),if_pos h]
 ·rw [if_neg (fun h'=>h (key.1 h')),if_neg h]
set_option maxHeartbeats 4000000 in
theorem tidy_calls (S:Nat→Prop) (A:Option Addr) (n cap:Nat) (c:Int) (ks:List Int) (w:World) (hr:IntsS w S A n ks) (hcap:n≤cap) (hc0:0≤c) :
  Calls Try.prog 116 #[.agg #[.int .i64 c,.slice A n cap]] w (NfGot w S (shortN (c,ks))):=by
 have HR:=Ak hr
 have HN:=Ak hr.1.1
 have HC0:=Ak hc0
 clear hr hc0
 have hx1:=box0 w (.cells #[.int .i64 c,.slice A n cap] 86 (0,0)) (.cells #[.int .i64 0,.slice none 0 0] 86 (0,0))
 have hx2:=box1 w (.cells #[.int .i64 c,.slice A n cap] 86 (0,0)) (.cells #[.int .i64 0,.slice none 0 0] 86 (0,0))
 have hb2:Below w.heap.size w ((w.alloc (.cells #[.int .i64 c,.slice A n cap] 86 (0,0))).alloc (.cells #[.int .i64 0,.slice none 0 0] 86 (0,0))):=below_alloc (below_alloc (Below.refl _ _) _) _
 have HX1:=Ak hx1
 have HX2:=Ak hx2
 have HB2:=Ak hb2
 clear hx1 hx2 hb2
 go_enter Try.func116,Try.ntmps116
 go_upto_block 0 with (fail)
 obtain ⟨W,hW⟩:∃ W,W=((w.alloc (.cells #[.int .i64 c,.slice A n cap] 86 (0,0))).alloc (.cells #[.int .i64 0,.slice none 0 0] 86 (0,0))):=⟨_,rfl⟩
 rw [← hW] at HX1 HX2 HB2 ⊢
 clear hW
 have hn9:=HR.out.1.2.1
 go_cut [] (fun wr=>∃ (j:Nat),j≤n∧Aside0 (trimTo ks n=j)∧Aside0 (wr.heap[w.heap.size]?=some (.cells #[.int .i64 c,.slice A j cap] 86 (0,0)))∧Aside0 (wr.heap[w.heap.size+1]?=some (.cells #[.int .i64 0,.slice none 0 0] 86 (0,0)))∧Aside0 (Below w.heap.size w wr))
 case first =>
  go_wp2
  go_loopw [] (fun wr=>∃ (j:Nat),j≤n∧Aside0 (trimTo ks n=trimTo ks j)∧Aside0 (wr.heap[w.heap.size]?=some (.cells #[.int .i64 c,.slice A j cap] 86 (0,0)))∧Aside0 (wr.heap[w.heap.size+1]?=some (.cells #[.int .i64 0,.slice none 0 0] 86 (0,0)))∧Aside0 (Below w.heap.size w wr)) (fun wr=>lenAt wr w.heap.size)
  case atStart=>exact ⟨n,Nat.le_refl _,⟨rfl⟩,HX1,HX2,HB2⟩
  case round =>
   clear HX1 HX2 HB2
   obtain ⟨j,hj,HT,HX1,HX2,HB2⟩:=hrel
   obtain ⟨d0,d1,e0,e1⟩:=row2 HX1.out
   have HLA:=Ak (lenAt_eq HX1.out)
   by_cases hj0:0<j
   ·obtain ⟨ad,rfl,hc⟩:=(HR.out.later HB2.out).1.at_ ((j - 1:Nat):Int) (by omega) (by omega)
    rw [Int.toNat_natCast] at hc
    obtain ⟨y,hy⟩:∃ y,y=rd ks ((j - 1:Nat):Int):=⟨_,rfl⟩
    rw [← hy] at hc
    have HTT:=Ak (show trimTo ks j=(if y<0 then trimTo ks (j - 1) else j) by
     obtain ⟨i,rfl⟩:∃ i,j=i+1:=⟨j - 1,by omega⟩
     rw [trimTo,hy];rfl)
    clear hy
    by_cases hy0:y<0
    ·have HT':=Ak (show trimTo ks n=trimTo ks (j - 1) by rw [HT.out,HTT.out,if_pos hy0])
     go_wp2
     have hch:=chg_set wr w.heap.size 1 (.slice (some ad) (j - 1) cap)
     have hx1:=blk_put HX1.out 1 (.slice (some ad) (j - 1) cap) rfl
     have hm:=lenAt_eq hx1
     go_roundw
     case rel=>exact ⟨j - 1,by omega,HT',⟨hx1⟩,⟨(hch.block _ (blk_lt HX2.out) (by omega)).trans HX2.out⟩,⟨Chg.trans_below HB2.out hch (fun _ e=>by omega) HB2.out.size⟩⟩
     case measure=>rw [hm,HLA.out];omega
    ·have HT':=Ak (show trimTo ks n=j by rw [HT.out,HTT.out,if_neg hy0])
     go_wp2
     go_meet
     case rel=>exact ⟨j,hj,HT',HX1,HX2,HB2⟩
   ·obtain rfl:j=0:=by omega
    have HT':=Ak (show trimTo ks n=0 from HT.out)
    go_wp2
    go_meet
    case rel=>exact ⟨0,hj,HT',HX1,HX2,HB2⟩
 case rest =>
  clear HX1 HX2 HB2
  obtain ⟨j,hj,HT,HX1,HX2,HB2⟩:=hcut
  obtain ⟨d0,d1,e0,e1⟩:=row2 HX1.out
  go_upto_block 2 with (fail)
  go_cut [] (fun wr=>Aside0 (wr.heap[w.heap.size]?=some (.cells #[.int .i64 (tdC c (ks.take j)),.slice A j cap] 86 (0,0)))∧Aside0 (wr.heap[w.heap.size+1]?=some (.cells #[.int .i64 0,.slice none 0 0] 86 (0,0)))∧Aside0 (Below w.heap.size w wr))
  case first =>
   clear d0 d1 e0 e1
   go_wp2
   go_loopw [31] (fun i wr=>∃ (k:Nat) (c':Int),i=.int .i64 k∧k≤j∧Aside0 (c'=tdC c (ks.take k))∧Aside0 (wr.heap[w.heap.size]?=some (.cells #[.int .i64 c',.slice A j cap] 86 (0,0)))∧Aside0 (wr.heap[w.heap.size+1]?=some (.cells #[.int .i64 0,.slice none 0 0] 86 (0,0)))∧Aside0 (Below w.heap.size w wr)) (fun i _=>j - (intOf i).toNat)
   case atStart=>exact ⟨0,c,rfl,Nat.zero_le _,⟨rfl⟩,HX1,HX2,HB2⟩
   case round =>
    clear HX1 HX2 HB2
    obtain ⟨k,c',rfl,hk,HTD,HX1,HX2,HB2⟩:=hrel
    obtain ⟨d0,d1,e0,e1⟩:=row2 HX1.out
    by_cases hlt:k<j
    ·obtain ⟨ad,rfl,hc⟩:=(HR.out.later HB2.out).1.at_ (k:Int) (by omega) (by omega)
     rw [Int.toNat_natCast] at hc
     obtain ⟨y,hy⟩:∃ y,y=rd ks (k:Int):=⟨_,rfl⟩
     rw [← hy] at hc
     have HTN:=Ak (tdC_next (c:=c) (show k<ks.length by rw [HN.out];omega) hy)
     clear hy
     by_cases hcy:c'≤y
     ·have HT2:=Ak (show (0:Int)=tdC c (ks.take (k+1)) by rw [HTN.out,← HTD.out,if_pos hcy])
      go_wp2
      have hch:=chg_set wr w.heap.size 0 (.int .i64 0)
      have hx1:=blk_put HX1.out 0 (.int .i64 0) rfl
      go_roundw
      case rel=>exact ⟨k+1,0,by go_num,by omega,HT2,⟨hx1⟩,⟨(hch.block _ (blk_lt HX2.out) (by omega)).trans HX2.out⟩,⟨Chg.trans_below HB2.out hch (fun _ e=>by omega) HB2.out.size⟩⟩
      case measure=>(simp [intOf];try omega)
     ·have HT2:=Ak (show c'=tdC c (ks.take (k+1)) by rw [HTN.out,← HTD.out,if_neg hcy])
      go_wp2
      go_roundw
      case rel=>exact ⟨k+1,c',by go_num,by omega,HT2,HX1,HX2,HB2⟩
      case measure=>(simp [intOf];try omega)
    ·obtain rfl:k=j:=by omega
     have hlt':decide ((k:Int)<k)=false:=by simp
     go_wp2
     go_meet
     case rel=>rw [← HTD.out];exact ⟨HX1,HX2,HB2⟩
  case rest =>
   clear HX1 HX2 HB2 d0 d1 e0 e1
   obtain ⟨HX1,HX2,HB2⟩:=hcut
   have HE:=Ak (show shortN (c,ks)=(tdC c (ks.take j),ks.take j) by have h:=td_short (ks:=ks) HC0.out;rw [HN.out,HT.out] at h;exact h.symm)
   obtain ⟨c',hc'⟩:∃ c',c'=tdC c (ks.take j):=⟨_,rfl⟩
   rw [← hc'] at HX1 HE
   clear hc'
   obtain ⟨d0,d1,e0,e1⟩:=row2 HX1.out
   obtain ⟨f0,f1,g0,g1⟩:=row2 HX2.out
   go_wp2
   refine bodyPost_ret (results_c rfl _ _ (w.heap.size+1) 86 #[.int .i64 c',.slice A j cap] (0,0) _ rfl (set2 HX2.out) Try.underlying86 rfl (by kernel_rfl)) rfl ?_
   have hb':=Chg.trans_below HB2.out (chg_set2 wc (w.heap.size+1) (.int .i64 c') (.slice A j cap)) (fun _ e=>by omega) HB2.out.size
   refine ⟨A,j,cap,by rw [HE.out],by omega,?_,hb'⟩
   rw [HE.out]
   exact ((HR.out.take hj).later hb').mono fun _ h _=>.inl h
end Go.Proofs.Ytdboloabpjmgaaa

namespace Go.Proofs.Ytdboloabpjmgaaa
open Go.RowKit Go.Proofs.YtdboloabpjmgaaaW.PrintWords Go.RegionInvYtdboloabpjmgaaa Go.RegionEYtdboloabpjmgaaa

structure MkF (w wr:World) (o:Nat) (x:Int) (V:Value) (ys:List Int):Prop where
 box:wr.heap[o]?=some (.cells #[.int .i64 x,V] 86 (0,0))
 row:wr.ownsRow (o+1) 3 1 V ys.length (nums .i64 ys)
 bel:Below w.heap.size w wr
theorem MkF.grow {w wr w6:World} {o:Nat} {x:Int} {V V6:Value} {ys zs:List Int} (h:MkF w wr o x V ys) (ho:w.heap.size≤o) (ho6:w6.ownsRow (o+1) 3 1 V6 zs.length (nums .i64 zs)) (hg:wr.grownBy w6 V.ownBlock) :
  w6.heap[o]?=some (.cells #[.int .i64 x,V] 86 (0,0))∧(∀ (g:Nat) (ob:Obj),g≤o→wr.heap[g]?=some ob→w6.heap[g]?=some ob)∧MkF w (w6.setCell ⟨o,1,none⟩ V6) o x V6 zs:=by
 have far:∀ k,k<o+1→some k≠V.ownBlock:=fun k hk e=>by have:=own_base h.row k e.symm;omega
 have h1:w6.heap[o]?=some (.cells #[.int .i64 x,V] 86 (0,0)):=(hg.block _ (blk_lt h.box) (far _ (by omega))).trans h.box
 have hb:Below w.heap.size w w6:=⟨hg.os.trans h.bel.os,hg.tape.trans h.bel.tape,hg.output.trans h.bel.output,Nat.le_trans h.bel.size hg.size,fun i hi=>(hg.block i (Nat.lt_of_lt_of_le hi h.bel.size) (far i (by omega))).trans (h.bel.block i hi)⟩
 have hch:=chg_set w6 o 1 V6
 refine ⟨h1,fun g ob hgo hgb=>(hg.block _ (blk_lt hgb) (far _ (by omega))).trans hgb,⟨blk_put h1 1 V6 rfl,?_,Chg.trans_below hb hch (fun _ e=>by omega) hb.size⟩⟩
 exact own_setCell ho6 (fun e=>by have:=own_base ho6 o e.symm;omega) _
set_option maxHeartbeats 4000000 in
theorem refPlus_calls (A:Option Addr) (n cap:Nat) (c k:Int) (ks:List Int) (w:World) (hr:ReadsInt w .i64 A n ks) (hc0:0≤c) (hc1:c≤1099511627776) (hk0:0≤k) (hk1:k≤1099511627776) (hks:∀ x∈ks,-1≤x∧x≤1099511627776) (hl:n≤1000000) :
  Calls Try.prog 92 #[.agg #[.int .i64 c,.slice A n cap],.int .i64 k] w (NfGot w (fun _=>False) (shortN (plusR k (c,ks)))):=by
 have HR:=Ak hr
 have HN:=Ak hr.1
 have HKS:=Ak hks
 clear hr hks
 obtain ⟨W,hW⟩:∃ W,W=((w.alloc (.cells #[.int .i64 c,.slice A n cap] 86 (0,0))).alloc (.cells #[.int .i64 0,.slice none 0 0] 86 (0,0))).alloc (.cells #[.int .i64 c,.slice none 0 0] 86 (0,0)):=⟨_,rfl⟩
 have hx1:W.heap[w.heap.size]?=some (.cells #[.int .i64 c,.slice A n cap] 86 (0,0)):=by rw [hW];exact blk_alloc (box0 w _ _) _
 have hres:W.heap[w.heap.size+1]?=some (.cells #[.int .i64 0,.slice none 0 0] 86 (0,0)):=by rw [hW];exact blk_alloc (box1 w _ _) _
 have hst:MkF w W (w.heap.size+1+1) c (.slice none 0 0) []:=by
  rw [hW]
  refine ⟨?_,own_nil _ _ _ _,below_alloc (below_alloc (below_alloc (Below.refl _ _) _) _) _⟩
  have:=blk_new ((w.alloc (.cells #[.int .i64 c,.slice A n cap] 86 (0,0))).alloc (.cells #[.int .i64 0,.slice none 0 0] 86 (0,0))) (.cells #[.int .i64 c,.slice none 0 0] 86 (0,0))
  simpa using this
 have HX1:=Ak hx1
 have HRES:=Ak hres
 have HST:=Ak hst
 clear hx1 hres hst
 go_enter Try.func92,Try.ntmps92
 go_upto_region 3 with (fail)
 rw [← hW]
 clear hW
 obtain ⟨x,hx⟩:∃ x,x=(plusR k (c,ks)).1:=⟨_,rfl⟩
 have HPE:=Ak (show plusR k (c,ks)=(x,ks.map (addN k)) by rw [hx];rfl)
 have HXX:=Ak (show 0≤x by have:=hx;unfold plusR at this;simp only [] at this;split at this <;> omega)
 have HPX:=Ak hx
 clear hx
 obtain ⟨a0,a1,-,-⟩:=row2 HX1.out
 obtain ⟨d0,d1,e0,e1⟩:=row2 HST.out.box
 go_cut [19] (fun v wr=>v=.bool (decide (ks=[]∨0<c))∧Aside0 (MkF w wr (w.heap.size+1+1) c (.slice none 0 0) [])∧Aside0 (wr.heap[w.heap.size]?=some (.cells #[.int .i64 c,.slice A n cap] 86 (0,0)))∧Aside0 (wr.heap[w.heap.size+1]?=some (.cells #[.int .i64 0,.slice none 0 0] 86 (0,0))))
 case first =>
  by_cases hn:n=0
  ·subst hn
   have HB:=Ak (show decide (ks=[]∨0<c)=true from decide_eq_true (.inl (List.eq_nil_of_length_eq_zero HN.out)))
   go_wp2
   go_meet
   case rel=>exact ⟨by rw [HB.out],HST,HX1,HRES⟩
  ·have hn0:((n:Int) == 0)=false:=by simp [hn]
   have HKN:=Ak (show ks≠[] from fun e=>hn (by rw [← HN.out,e];rfl))
   by_cases hc:0<c
   ·have HB:=Ak (show decide (ks=[]∨0<c)=true from decide_eq_true (.inr hc))
    have hcd:decide (0<c)=true:=decide_eq_true hc
    clear hc
    go_wp2
    go_meet
    case rel=>exact ⟨by rw [HB.out],HST,HX1,HRES⟩
   ·have HB:=Ak (show decide (ks=[]∨0<c)=false from decide_eq_false (fun h=>h.elim HKN.out hc))
    have hcd:decide (0<c)=false:=decide_eq_false hc
    clear hc
    go_wp2
    go_meet
    case rel=>exact ⟨by rw [HB.out],HST,HX1,HRES⟩
 case rest =>
 clear HX1 HRES HST a0 a1 d0 d1 e0 e1
 obtain ⟨rfl,HST,HX1,HRES⟩:=hcut
 obtain ⟨a0,a1,-,-⟩:=row2 HX1.out
 obtain ⟨d0,d1,e0,e1⟩:=row2 HST.out.box
 obtain ⟨bb,hbb⟩:∃ bb,bb=decide (ks=[]∨0<c):=⟨_,rfl⟩
 rw [← hbb]
 have HPB:=Ak (show x=if bb=true then min 1099511627776 (c+k) else c by
  rw [HPX.out,hbb];unfold plusR;simp only [decide_eq_true_eq])
 clear hbb
 go_upto_if 19 with (fail)
 go_cut [] (fun wr=>Aside0 (MkF w wr (w.heap.size+1+1) x (.slice none 0 0) [])∧Aside0 (wr.heap[w.heap.size]?=some (.cells #[.int .i64 c,.slice A n cap] 86 (0,0)))∧Aside0 (wr.heap[w.heap.size+1]?=some (.cells #[.int .i64 0,.slice none 0 0] 86 (0,0))))
 case first =>
  cases bb with
  | true =>
   by_cases hck:c+k≤1099511627776
   ·have HXE:=Ak (show x=c+k by rw [HPB.out,if_pos rfl];omega)
    go_wp2
    go_meet
    have hch:=chg_set wc (w.heap.size+1+1) 0 (.int .i64 (c+k))
    case rel=>rw [HXE.out];exact ⟨⟨⟨blk_put HST.out.box 0 _ rfl,own_nil _ _ _ _,Chg.trans_below HST.out.bel hch (fun _ e=>by omega) HST.out.bel.size⟩⟩,⟨(hch.block _ (blk_lt HX1.out) (by omega)).trans HX1.out⟩,⟨(hch.block _ (blk_lt HRES.out) (by omega)).trans HRES.out⟩⟩
   ·have HXE:=Ak (show x=1099511627776 by rw [HPB.out,if_pos rfl];omega)
    go_wp2
    go_meet
    have hch:=chg_set wc (w.heap.size+1+1) 0 (.int .i64 (1099511627776))
    case rel=>rw [HXE.out];exact ⟨⟨⟨blk_put HST.out.box 0 _ rfl,own_nil _ _ _ _,Chg.trans_below HST.out.bel hch (fun _ e=>by omega) HST.out.bel.size⟩⟩,⟨(hch.block _ (blk_lt HX1.out) (by omega)).trans HX1.out⟩,⟨(hch.block _ (blk_lt HRES.out) (by omega)).trans HRES.out⟩⟩
  | false =>
   have HXE:=Ak (show x=c by rw [HPB.out];rfl)
   go_wp2
   go_meet
   case rel=>rw [HXE.out];exact ⟨HST,HX1,HRES⟩
 case rest =>
  clear HX1 HRES HST a0 a1 d0 d1 e0 e1
  obtain ⟨HST,HX1,HRES⟩:=hcut
  obtain ⟨a0,a1,-,-⟩:=row2 HX1.out
  go_upto_block 0 with (fail)
  go_cut [] (fun wr=>∃ V,Aside0 (MkF w wr (w.heap.size+1+1) x V (ks.map (addN k)))∧Aside0 (wr.heap[w.heap.size+1]?=some (.cells #[.int .i64 0,.slice none 0 0] 86 (0,0))))
  case first =>
   clear a0 a1
   go_wp2
   go_loopw [29] (fun i wr=>∃ (j:Nat) (V:Value),i=.int .i64 j∧j≤n∧Aside0 (MkF w wr (w.heap.size+1+1) x V ((ks.take j).map (addN k)))∧Aside0 (wr.heap[w.heap.size+1]?=some (.cells #[.int .i64 0,.slice none 0 0] 86 (0,0)))) (fun i _=>n - (intOf i).toNat)
   case atStart=>exact ⟨0,_,rfl,Nat.zero_le _,HST,HRES⟩
   case round =>
    clear HST HRES HX1
    obtain ⟨j,V,rfl,hj,HST,HRES⟩:=hrel
    obtain ⟨d0,d1,-,e1⟩:=row2 HST.out.box
    obtain ⟨A0,c0,rfl⟩:=own_slice HST.out.row
    obtain ⟨L,hL⟩:∃ L,L=((ks.take j).map (addN k)).length:=⟨_,rfl⟩
    rw [← hL] at HST d1
    have HL:=Ak hL
    have HLJ:=Ak (show L=j by rw [hL];simp;have:=HN.out;omega)
    clear hL
    by_cases hlt:j<n
    ·obtain ⟨ad,rfl,hcell⟩:=(HR.out.below HST.out.bel).at_ j (by omega) (by omega)
     rw [Int.toNat_natCast] at hcell
     obtain ⟨y,hy⟩:∃ y,y=rd ks (j:Int):=⟨_,rfl⟩
     rw [← hy] at hcell
     have hmem:-1≤y∧y≤1099511627776:=by
      rw [hy,rd_nat',List.getD_eq_getElem?_getD,List.getElem?_eq_getElem (by rw [HN.out];exact hlt)]
      exact HKS.out _ (List.getElem_mem _)
     have hget:ks[j]?=some y:=by rw [hy,rd_nat',List.getD_eq_getElem?_getD,List.getElem?_eq_getElem (by rw [HN.out];exact hlt)];rfl
     have HT:=Ak (show (ks.take (j+1)).map (addN k)=(ks.take j).map (addN k) ++ [addN k y] by
      rw [List.take_add_one,hget,List.map_append];rfl)
     clear hget
     have HLEN:=Ak (show ((ks.take j).map (addN k)).length=j by rw [← HL.out];exact HLJ.out)
     have hbase:w.heap.size+1+1+1≤wr.heap.size:=blk_lt HST.out.box
     clear hy
     by_cases h0:0≤y
     ·have HA:=Ak (show addN k y=(if 1099511627776<y+k then 1099511627776 else y+k) by unfold addN;rw [if_pos h0];omega)
      go_wp2_with (first
       | (at_builtin;go_must (refine print_append_num (w0:=wr) (w.heap.size+1+1+1) rfl (.tmp 40) (.tmp 42) 84 3 .i64 8 rfl Try.underlying84 infoI64 (by decide) (.slice A0 L c0) ((ks.take j).map (addN k)) _ rfl rfl HST.out.row (Below.refl _ _) hbase (by rw [HLEN.out];omega) ?_;intro v1 w1 ho _ hg _;obtain ⟨A6,L6,c6,rfl,-⟩:=own_slice' ho;have HG:=Ak (HST.out.grow (Nat.le_of_lt (by omega)) ho hg);have HR6:=Ak (HG.out.2.1 _ _ (by omega) HRES.out);obtain ⟨d0,d1,-,e1⟩:=row2 HG.out.1;clear ho hg)))
      go_roundw
      case rel =>
       refine ⟨j+1,.slice A6 L6 c6,by go_num,by omega,⟨?_⟩,⟨((chg_set w1 (w.heap.size+1+1) 1 _).block _ (blk_lt HR6.out) (by omega)).trans HR6.out⟩⟩
       rw [HT.out,HA.out]
       exact HG.out.2.2
      case measure=>(simp [intOf];try omega)
     ·have HA:=Ak (show addN k y=y by unfold addN;rw [if_neg h0])
      go_wp2_with (first
       | (at_builtin;go_must (refine print_append_num (w0:=wr) (w.heap.size+1+1+1) rfl (.tmp 40) (.tmp 42) 84 3 .i64 8 rfl Try.underlying84 infoI64 (by decide) (.slice A0 L c0) ((ks.take j).map (addN k)) _ rfl rfl HST.out.row (Below.refl _ _) hbase (by rw [HLEN.out];omega) ?_;intro v1 w1 ho _ hg _;obtain ⟨A6,L6,c6,rfl,-⟩:=own_slice' ho;have HG:=Ak (HST.out.grow (Nat.le_of_lt (by omega)) ho hg);have HR6:=Ak (HG.out.2.1 _ _ (by omega) HRES.out);obtain ⟨d0,d1,-,e1⟩:=row2 HG.out.1;clear ho hg)))
      go_roundw
      case rel =>
       refine ⟨j+1,.slice A6 L6 c6,by go_num,by omega,⟨?_⟩,⟨((chg_set w1 (w.heap.size+1+1) 1 _).block _ (blk_lt HR6.out) (by omega)).trans HR6.out⟩⟩
       rw [HT.out,HA.out]
       exact HG.out.2.2
      case measure=>(simp [intOf];try omega)
    ·obtain rfl:j=n:=by omega
     have hlt':decide ((j:Int)<j)=false:=by simp
     have HKT:=Ak (show ks.take j=ks from List.take_of_length_le (by rw [HN.out];exact Nat.le_refl _))
     go_wp2
     go_meet
     case rel=>rw [HKT.out,HL.out,HKT.out] at HST;exact ⟨_,HST,HRES⟩
  case rest =>
   clear HST HX1 HRES a0 a1
   obtain ⟨V,HST,HRES⟩:=hcut
   obtain ⟨A9,c9,rfl,hcap,hints⟩:=IntsS.of_own HST.out.row
   obtain ⟨L,hL⟩:∃ L,L=(ks.map (addN k)).length:=⟨_,rfl⟩
   rw [← hL] at HST hcap hints
   have HI:=Ak hints
   have HCAP:=Ak hcap
   obtain ⟨d0,d1,-,-⟩:=row2 HST.out.box
   clear hL hints hcap
   go_wp2_with (first
    | (go_at_call 116;go_must (refine (tidy_calls (fun b=>w.heap.size+1+1+1≤b) A9 L c9 x (ks.map (addN k)) _ HI.out HCAP.out HXX.out).mono ?_;rw [← HPE.out];obtain ⟨f,hf⟩:∃ f,f=shortN (plusR k (c,ks)):=⟨_,rfl⟩;rw [← hf];have HF:=Ak hf;rintro e w2 ⟨A2,n2,c2,rfl,hcap2,hi2,hb⟩;have HI2:=Ak hi2;have HCAP2:=Ak hcap2;have HZ2:=Ak (blk_lt HST.out.box);have HB2:=Ak (below_then HST.out.bel HST.out.bel.size hb);have HR2:=Ak (blk_below HRES.out hb);obtain ⟨f0,f1,g0,g1⟩:=row2 HR2.out;clear hb hi2 hcap2 hf)))
   have hch:=chg_set2 w2 (w.heap.size+1) (.int .i64 f.1) (.slice A2 n2 c2)
   refine bodyPost_ret (results_c rfl _ _ (w.heap.size+1) 86 #[.int .i64 f.1,.slice A2 n2 c2] (0,0) _ rfl (set2 HR2.out) Try.underlying86 rfl (by kernel_rfl)) rfl ?_
   rw [← HF.out]
   have hz2:=HZ2.out
   exact ⟨A2,n2,c2,rfl,HCAP2.out,(HI2.out.same fun b hb hz=>hch.block b hz (by rcases hb with hb | hb <;> omega)).mono fun b hb _=>.inr (by rcases hb with hb | hb <;> omega),Chg.trans_below HB2.out hch (fun _ e=>by omega) HB2.out.size⟩
end Go.Proofs.Ytdboloabpjmgaaa

namespace Go.Proofs.Ytdboloabpjmgaaa
open Go.RowKit Go.Proofs.YtdboloabpjmgaaaW.PrintWords Go.RegionInvYtdboloabpjmgaaa Go.RegionEYtdboloabpjmgaaa

structure OrF (w wr:World) (c c':Int) (B B':Value):Prop where
 x2:wr.heap[w.heap.size]?=some (.cells #[.int .i64 c,B] 86 (0,0))
 x3:wr.heap[w.heap.size+1]?=some (.cells #[.int .i64 c',B'] 86 (0,0))
 x4:wr.heap[w.heap.size+1+1]?=some (.cells #[.int .i64 0,.slice none 0 0] 86 (0,0))
theorem orK_all {f g:Nf}:orN f g=(max f.1 g.1,orK f.2 g.2 (max f.2.length g.2.length)):=rfl
set_option maxHeartbeats 8000000 in
theorem refBoth_calls (A A':Option Addr) (n cap n' cap':Nat) (c c':Int) (ks ks':List Int) (w:World) (hr:ReadsInt w .i64 A n ks) (hr':ReadsInt w .i64 A' n' ks') (hc0:0≤c) (hks:∀ x∈ks,-1≤x∧x≤1099511627776) (hks':∀ x∈ks',-1≤x∧x≤1099511627776) (hl:n≤1000000) (hl':n'≤1000000) :
  Calls Try.prog 91 #[.agg #[.int .i64 c,.slice A n cap],.agg #[.int .i64 c',.slice A' n' cap']] w (NfGot w (fun _=>False) (shortN (orN (c,ks) (c',ks')))):=by
 have HR:=Ak hr
 have HR':=Ak hr'
 have HN:=Ak hr.1
 have HN':=Ak hr'.1
 have HKS:=Ak hks
 have HKS':=Ak hks'
 clear hr hr' hks hks'
 go_enter Try.func91,Try.ntmps91
 go_upto_region 2 with (fail)
 obtain ⟨x,hx⟩:∃ x,x=(if c<c' then c' else c):=⟨_,rfl⟩
 rw [← hx]
 have HXE:=Ak (show x=max c c' by rw [hx];omega)
 have HXX:=Ak (show 0≤x by rw [hx];split <;> omega)
 clear hx
 go_upto_block 0 with (fail)
 obtain ⟨W,hW⟩:∃ W,W=((((w.alloc (.cells #[.int .i64 c,.slice A n cap] 86 (0,0))).alloc (.cells #[.int .i64 c',.slice A' n' cap'] 86 (0,0))).alloc (.cells #[.int .i64 0,.slice none 0 0] 86 (0,0))).alloc (.cells #[.int .i64 x,.slice none 0 0] 86 (0,0))):=⟨_,rfl⟩
 have hst:MkF w W (w.heap.size+1+1+1) x (.slice none 0 0) []:=by
  rw [hW]
  refine ⟨?_,own_nil _ _ _ _,below_alloc (below_alloc (below_alloc (below_alloc (Below.refl _ _) _) _) _) _⟩
  have:=blk_new (((w.alloc (.cells #[.int .i64 c,.slice A n cap] 86 (0,0))).alloc (.cells #[.int .i64 c',.slice A' n' cap'] 86 (0,0))).alloc (.cells #[.int .i64 0,.slice none 0 0] 86 (0,0))) (.cells #[.int .i64 x,.slice none 0 0] 86 (0,0))
  simpa using this
 have hres:OrF w W c c' (.slice A n cap) (.slice A' n' cap'):=by
  rw [hW]
  refine ⟨blk_alloc (blk_alloc (box0 _ _ _) _) _,blk_alloc (blk_alloc (box1 _ _ _) _) _,blk_alloc ?_ _⟩
  have:=blk_new ((w.alloc (.cells #[.int .i64 c,.slice A n cap] 86 (0,0))).alloc (.cells #[.int .i64 c',.slice A' n' cap'] 86 (0,0))) (.cells #[.int .i64 0,.slice none 0 0] 86 (0,0))
  simpa using this
 have HST:=Ak hst
 have HRES:=Ak hres
 rw [← hW]
 clear hst hres hW
 obtain ⟨m,hm⟩:∃ m:Nat,(m:Int)=(if n<n' then (n':Int) else n):=⟨max n n',by omega⟩
 rw [← hm]
 have HM:=Ak (show m=max ks.length ks'.length by rw [HN.out,HN'.out];omega)
 have hmn:m=max n n':=by omega
 have HMN:=Ak hmn
 have hml:m≤1000000:=by omega
 clear hm hmn
 go_cut [] (fun wr=>∃ V,Aside0 (MkF w wr (w.heap.size+1+1+1) x V (orK ks ks' m))∧Aside0 (OrF w wr c c' (.slice A n cap) (.slice A' n' cap')))
 case first =>
  go_wp2
  go_loopw [21] (fun i wr=>∃ (j:Nat) (V:Value),i=.int .i64 j∧j≤m∧Aside0 (MkF w wr (w.heap.size+1+1+1) x V (orK ks ks' j))∧Aside0 (OrF w wr c c' (.slice A n cap) (.slice A' n' cap'))) (fun i _=>m - (intOf i).toNat)
  case atStart=>exact ⟨0,_,rfl,Nat.zero_le _,HST,HRES⟩
  case round =>
   clear HST HRES
   obtain ⟨j,V,rfl,hj,HST,HRES⟩:=hrel
   by_cases hlt:j<m
   ·obtain ⟨d0,d1,-,e1⟩:=row2 HST.out.box
    obtain ⟨a0,a1,-,-⟩:=row2 HRES.out.x2
    obtain ⟨b0,b1,-,-⟩:=row2 HRES.out.x3
    obtain ⟨A0,c0,rfl⟩:=own_slice HST.out.row
    obtain ⟨L,hL⟩:∃ L,L=(orK ks ks' j).length:=⟨_,rfl⟩
    rw [← hL] at HST d1
    have HLJ:=Ak (show L=j by rw [hL,orK_len])
    have HLEN:=Ak (show (orK ks ks' j).length=j from orK_len _ _ _)
    have hbase:w.heap.size+1+1+1+1≤wr.heap.size:=blk_lt HST.out.box
    have HT:=Ak (orK_succ ks ks' j)
    clear hL
    by_cases h1:j<n
    ·obtain ⟨p,rfl,hc1⟩:=(HR.out.below HST.out.bel).at_ j (by omega) (by omega)
     rw [Int.toNat_natCast] at hc1
     obtain ⟨y,hy⟩:∃ y,y=rd ks (j:Int):=⟨_,rfl⟩
     rw [← hy] at hc1
     have HAy:=Ak (show atP ks j=y by rw [hy];exact atP_lt (by rw [HN.out];exact h1))
     have HMy:=Ak (show -1≤y∧y≤1099511627776 by rw [hy,rd_nat',List.getD_eq_getElem?_getD,List.getElem?_eq_getElem (by rw [HN.out];exact h1)];exact HKS.out _ (List.getElem_mem _))
     clear hy
     by_cases h2:j<n'
     ·obtain ⟨p',rfl,hc2⟩:=(HR'.out.below HST.out.bel).at_ j (by omega) (by omega)
      rw [Int.toNat_natCast] at hc2
      obtain ⟨z,hz⟩:∃ z,z=rd ks' (j:Int):=⟨_,rfl⟩
      rw [← hz] at hc2
      have HAz:=Ak (show atP ks' j=z by rw [hz];exact atP_lt (by rw [HN'.out];exact h2))
      have HMz:=Ak (show -1≤z∧z≤1099511627776 by rw [hz,rd_nat',List.getD_eq_getElem?_getD,List.getElem?_eq_getElem (by rw [HN'.out];exact h2)];exact HKS'.out _ (List.getElem_mem _))
      clear hz
      have HE:=Ak (show max (atP ks j) (atP ks' j)=(if y<z then z else y) by rw [HAy.out,HAz.out];omega)
      go_wp2_with (first
       | (at_builtin;go_must (refine print_append_num (w0:=wr) (w.heap.size+1+1+1+1) rfl (.tmp 47) (.tmp 49) 84 3 .i64 8 rfl Try.underlying84 infoI64 (by decide) (.slice A0 L c0) (orK ks ks' j) _ rfl rfl (by have h:=HST.out.row;rw [HLJ.out,HLEN.out] at h;rw [HLJ.out,HLEN.out];exact h) (Below.refl _ _) hbase (by rw [HLEN.out];omega) ?_;intro v1 w1 ho _ hg _;obtain ⟨A6,L6,c6,rfl,-⟩:=own_slice' ho;have HG:=Ak (HST.out.grow (Nat.le_of_lt (by omega)) ho hg);have HR6:=Ak (show OrF w w1 c c' _ _ from ⟨HG.out.2.1 _ _ (by omega) HRES.out.x2,HG.out.2.1 _ _ (by omega) HRES.out.x3,HG.out.2.1 _ _ (by omega) HRES.out.x4⟩);obtain ⟨d0,d1,-,e1⟩:=row2 HG.out.1;clear ho hg)))
      go_roundw
      case rel =>
       have hch:=chg_set w1 (w.heap.size+1+1+1) 1 (.slice A6 L6 c6)
       refine ⟨j+1,.slice A6 L6 c6,by go_num,by omega,⟨?_⟩,⟨⟨(hch.block _ (blk_lt HR6.out.x2) (by omega)).trans HR6.out.x2,(hch.block _ (blk_lt HR6.out.x3) (by omega)).trans HR6.out.x3,(hch.block _ (blk_lt HR6.out.x4) (by omega)).trans HR6.out.x4⟩⟩⟩
       rw [HT.out,HE.out]
       exact HG.out.2.2
      case measure=>(simp [intOf];try omega)
     ·have HE:=Ak (show max (atP ks j) (atP ks' j)=y by rw [HAy.out,atP_beyond (by rw [HN'.out];omega)];have:=HMy.out;omega)
      go_wp2_with (first
       | (at_builtin;go_must (refine print_append_num (w0:=wr) (w.heap.size+1+1+1+1) rfl (.tmp 47) (.tmp 49) 84 3 .i64 8 rfl Try.underlying84 infoI64 (by decide) (.slice A0 L c0) (orK ks ks' j) _ rfl rfl (by have h:=HST.out.row;rw [HLJ.out,HLEN.out] at h;rw [HLJ.out,HLEN.out];exact h) (Below.refl _ _) hbase (by rw [HLEN.out];omega) ?_;intro v1 w1 ho _ hg _;obtain ⟨A6,L6,c6,rfl,-⟩:=own_slice' ho;have HG:=Ak (HST.out.grow (Nat.le_of_lt (by omega)) ho hg);have HR6:=Ak (show OrF w w1 c c' _ _ from ⟨HG.out.2.1 _ _ (by omega) HRES.out.x2,HG.out.2.1 _ _ (by omega) HRES.out.x3,HG.out.2.1 _ _ (by omega) HRES.out.x4⟩);obtain ⟨d0,d1,-,e1⟩:=row2 HG.out.1;clear ho hg)))
      go_roundw
      case rel =>
       have hch:=chg_set w1 (w.heap.size+1+1+1) 1 (.slice A6 L6 c6)
       refine ⟨j+1,.slice A6 L6 c6,by go_num,by omega,⟨?_⟩,⟨⟨(hch.block _ (blk_lt HR6.out.x2) (by omega)).trans HR6.out.x2,(hch.block _ (blk_lt HR6.out.x3) (by omega)).trans HR6.out.x3,(hch.block _ (blk_lt HR6.out.x4) (by omega)).trans HR6.out.x4⟩⟩⟩
       rw [HT.out,HE.out]
       exact HG.out.2.2
      case measure=>(simp [intOf];try omega)
    ·have h2:j<n':=by have:=HMN.out;omega
     obtain ⟨p',rfl,hc2⟩:=(HR'.out.below HST.out.bel).at_ j (by omega) (by omega)
     rw [Int.toNat_natCast] at hc2
     obtain ⟨z,hz⟩:∃ z,z=rd ks' (j:Int):=⟨_,rfl⟩
     rw [← hz] at hc2
     have HAz:=Ak (show atP ks' j=z by rw [hz];exact atP_lt (by rw [HN'.out];exact h2))
     have HMz:=Ak (show -1≤z∧z≤1099511627776 by rw [hz,rd_nat',List.getD_eq_getElem?_getD,List.getElem?_eq_getElem (by rw [HN'.out];exact h2)];exact HKS'.out _ (List.getElem_mem _))
     clear hz
     have HE:=Ak (show max (atP ks j) (atP ks' j)=(if -1<z then z else -1) by rw [atP_beyond (by rw [HN.out];omega),HAz.out];omega)
     go_wp2_with (first
      | (at_builtin;go_must (refine print_append_num (w0:=wr) (w.heap.size+1+1+1+1) rfl (.tmp 47) (.tmp 49) 84 3 .i64 8 rfl Try.underlying84 infoI64 (by decide) (.slice A0 L c0) (orK ks ks' j) _ rfl rfl (by have h:=HST.out.row;rw [HLJ.out,HLEN.out] at h;rw [HLJ.out,HLEN.out];exact h) (Below.refl _ _) hbase (by rw [HLEN.out];omega) ?_;intro v1 w1 ho _ hg _;obtain ⟨A6,L6,c6,rfl,-⟩:=own_slice' ho;have HG:=Ak (HST.out.grow (Nat.le_of_lt (by omega)) ho hg);have HR6:=Ak (show OrF w w1 c c' _ _ from ⟨HG.out.2.1 _ _ (by omega) HRES.out.x2,HG.out.2.1 _ _ (by omega) HRES.out.x3,HG.out.2.1 _ _ (by omega) HRES.out.x4⟩);obtain ⟨d0,d1,-,e1⟩:=row2 HG.out.1;clear ho hg)))
     go_roundw
     case rel =>
      have hch:=chg_set w1 (w.heap.size+1+1+1) 1 (.slice A6 L6 c6)
      refine ⟨j+1,.slice A6 L6 c6,by go_num,by omega,⟨?_⟩,⟨⟨(hch.block _ (blk_lt HR6.out.x2) (by omega)).trans HR6.out.x2,(hch.block _ (blk_lt HR6.out.x3) (by omega)).trans HR6.out.x3,(hch.block _ (blk_lt HR6.out.x4) (by omega)).trans HR6.out.x4⟩⟩⟩
      rw [HT.out,HE.out]
      exact HG.out.2.2
     case measure=>(simp [intOf];try omega)
   ·obtain rfl:j=m:=by omega
    have hlt':decide ((j:Int)<j)=false:=by simp
    go_wp2
    go_meet
    case rel=>exact ⟨_,HST,HRES⟩
 case rest =>
  clear HST HRES
  obtain ⟨V,HST,HRES⟩:=hcut
  obtain ⟨A9,c9,rfl,hcap,hints⟩:=IntsS.of_own HST.out.row
  obtain ⟨L,hL⟩:∃ L,L=(orK ks ks' m).length:=⟨_,rfl⟩
  rw [← hL] at HST hcap hints
  have HI:=Ak hints
  have HCAP:=Ak hcap
  have HPE:=Ak (show orN (c,ks) (c',ks')=(x,orK ks ks' m) by rw [orK_all,HM.out,HXE.out])
  obtain ⟨d0,d1,-,-⟩:=row2 HST.out.box
  clear hL hints hcap
  go_wp2_with (first
   | (go_at_call 116;go_must (refine (tidy_calls (fun b=>w.heap.size+1+1+1+1≤b) A9 L c9 x (orK ks ks' m) _ HI.out HCAP.out HXX.out).mono ?_;rw [← HPE.out];obtain ⟨f,hf⟩:∃ f,f=shortN (orN (c,ks) (c',ks')):=⟨_,rfl⟩;rw [← hf];have HF:=Ak hf;rintro e w2 ⟨A2,n2,c2,rfl,hcap2,hi2,hb⟩;have HI2:=Ak hi2;have HCAP2:=Ak hcap2;have HZ2:=Ak (blk_lt HST.out.box);have HB2:=Ak (below_then HST.out.bel HST.out.bel.size hb);have HR2:=Ak (blk_below HRES.out.x4 hb);obtain ⟨f0,f1,g0,g1⟩:=row2 HR2.out;clear hb hi2 hcap2 hf)))
  have hch:=chg_set2 w2 (w.heap.size+1+1) (.int .i64 f.1) (.slice A2 n2 c2)
  refine bodyPost_ret (results_c rfl _ _ (w.heap.size+1+1) 86 #[.int .i64 f.1,.slice A2 n2 c2] (0,0) _ rfl (set2 HR2.out) Try.underlying86 rfl (by kernel_rfl)) rfl ?_
  rw [← HF.out]
  have hz2:=HZ2.out
  exact ⟨A2,n2,c2,rfl,HCAP2.out,(HI2.out.same fun b hb hz=>hch.block b hz (by rcases hb with hb | hb <;> omega)).mono fun b hb _=>.inr (by rcases hb with hb | hb <;> omega),Chg.trans_below HB2.out hch (fun _ e=>by omega) HB2.out.size⟩
end Go.Proofs.Ytdboloabpjmgaaa
