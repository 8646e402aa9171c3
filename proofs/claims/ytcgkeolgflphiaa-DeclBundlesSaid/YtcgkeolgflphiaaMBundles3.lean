/-
  Merged: EncF, EncG, Dcs, DAwk, Bun, RdB, RdE, DrA, DrB, DrC, DrD, DrE, DrF, DrG, DrH, DrI, DrJ, DrK, KidS, DrL, DrM, DrN, DrO, DrP, DrQ, LcR, DrR, DrIc, DrJc, DrS, DrT.
-/
import Derived.Deep.MidRow
import Derived.Laws.CopyOwn
import Derived.Deep.AppendLies
import Derived.Deep.RegionLaw
import Derived.Deep.CutBlock
import Derived.Test.YtcgkeolgflphiaaMBundles2
namespace Go.Proofs.Ytcgkeolgflphiaa
set_option linter.unusedVariables false
set_option linter.unusedSimpArgs false
open Go.RowKit Go.Proofs.YtcgkeolgflphiaaW.PrintWords Go.RegionInvYtcgkeolgflphiaa Go.Proofs.YtcgkeolgflphiaaW.PrintMore Go.RegionEYtcgkeolgflphiaa

theorem lit_left {base:Nat} {v':Value} {zs:List Int} {w0 w':World} {O:Nat→Prop} (hc:Chg (fun _=>False∨False) w0 w') (hv:PutO base zs v' w' O)
  (hO:∀ k,O k→k<w'.heap.size∧¬ Fix w0 (est2 0 0 (fun _=>False) (fun _=>False)) k):OwnB w' base v' zs∧Below w0.heap.size w0 w'∧∀ k,v'.ownBlock=some k→w0.heap.size≤k:=by
 refine ⟨hv.1,⟨hc.os,hc.tape,hc.output,hc.size,fun k hk=>hc.block k hk (fun h=>h.elim id id)⟩,fun k hk=>?_⟩
 rcases Nat.lt_or_ge k w0.heap.size with hlt | hge
 ·exact absurd ⟨hlt,fun i h=>h.elim (fun h=>h.2) (fun h=>h.2)⟩ (hO k (hv.2 k hk)).2
 ·exact hge
theorem ownB_nil (w:World) (base:Nat):OwnB w base (.slice none 0 0) []:=own_nil _ _ _ _
set_option maxRecDepth 100000 in
set_option maxHeartbeats 8000000 in
theorem encode_calls (d:Dc) (P:DPl) (w:World) (hin:DcIn w w.heap.size P d) :
  Calls Try.prog 11 #[dcV P d] w (EncPost d w):=by
 have HCS:=Ak hin
 obtain ⟨W,hW⟩:∃ W,W=w.alloc (dcO P d):=⟨_,rfl⟩
 have hb:Below w.heap.size w W:=by rw [hW];exact below_alloc (Below.refl _ _) _
 have HX:=Ak (show W.heap[w.heap.size]?=some (dcO P d) by rw [hW];exact blk_new _ _)
 have HB:=Ak hb
 clear hin hb
 unfold dcV
 unfold dcO at hW
 go_enter Try.func11,Try.ntmps11
 go_upto_region 1 with (fail)
 rw [← hW]
 clear hW
 by_cases hm:mayD d=0
 ·have hok:=mayD_ok hm
  have HOK:=Ak hok.1
  have HLEN:=Ak hok.2
  have HMV:=Ak hm
  have HE:=Ak (encB_ok hm)
  clear hok hm
  go_wp2_with (first
   | (refine wpList_load_row rfl 30 _ rfl w.heap.size rfl 30 _ (0,0) _ HX.out Try.underlying30 rfl (by kernel_rfl) ?_)
   | (refine wpList_load_row rfl 30 _ rfl w.heap.size rfl 30 _ (0,0) _ HX1.out Try.underlying30 rfl (by kernel_rfl) ?_)
   | (go_at_call 13;go_must (refine (mayd_calls d P W (DcS.all (DcIn.stay HCS.out HB.out))).mono ?_;rintro e w1 ⟨rfl,hb⟩;rw [HMV.out];have HX1:=Ak ((hb.block _ (blk_lt HX.out)).trans HX.out);have HB1:=Ak (show Below w.heap.size w w1 from Below.trans HB.out (hb.mono HB.out.size));clear hb))
   | (go_at_call 29;go_must (refine (putDecl_calls d P w.heap.size (.slice none 0 0) [] w1 HOK.out (DcIn.stay HCS.out HB1.out) (ownB_nil _ _) HB1.out.size (by have:=HLEN.out;simp only [List.length_nil];omega)).mono ?_;rintro e w2 ⟨v2,rfl,ho2,hg2⟩;have HO2:=Ak ho2;have HB2:=Ak (Below.trans HB1.out (grew_still hg2 (ownB_nil _ _) HB1.out.size));clear ho2 hg2)))
  go_ret2
  exact ⟨v2,by rw [HMV.out];first | done | rfl,by rw [HE.out];exact HO2.out,HB2.out⟩
 ·have HE:=Ak (encB_no hm)
  obtain ⟨e1,he1⟩:∃ e1,mayD d=e1:=⟨_,rfl⟩
  have HMV:=Ak he1
  rw [he1] at hm
  have hm':(e1 != 0)=true:=by simpa using hm
  clear hm he1
  go_wp2_with (first
   | (refine wpList_load_row rfl 30 _ rfl w.heap.size rfl 30 _ (0,0) _ HX.out Try.underlying30 rfl (by kernel_rfl) ?_)
   | (go_at_call 13;go_must (refine (mayd_calls d P W (DcS.all (DcIn.stay HCS.out HB.out))).mono ?_;rintro e w1 ⟨rfl,hb⟩;rw [HMV.out];have HB1:=Ak (show Below w.heap.size w w1 from Below.trans HB.out (hb.mono HB.out.size));clear hb)))
  go_ret2
  exact ⟨.slice none 0 0,by rw [HMV.out];first | done | rfl,by rw [HE.out];exact ownB_nil _ _,HB1.out⟩
end Go.Proofs.Ytcgkeolgflphiaa

namespace Go.Proofs.Ytcgkeolgflphiaa
open Go.RowKit Go.Proofs.YtcgkeolgflphiaaW.PrintWords Go.RegionInvYtcgkeolgflphiaa Go.Proofs.YtcgkeolgflphiaaW.PrintMore Go.RegionEYtcgkeolgflphiaa

set_option maxRecDepth 100000 in
set_option maxHeartbeats 16000000 in
theorem refEncode_calls (d:Dc) (P:DPl) (w:World) (hin:DcIn w w.heap.size P d) :
  Calls Try.prog 12 #[dcV P d] w (EncPost d w):=by
 have HCS:=Ak hin
 obtain ⟨W,hW⟩:∃ W,W=w.alloc (dcO P d):=⟨_,rfl⟩
 have hb:Below w.heap.size w W:=by rw [hW];exact below_alloc (Below.refl _ _) _
 have HX:=Ak (show W.heap[w.heap.size]?=some (dcO P d) by rw [hW];exact blk_new _ _)
 have HB:=Ak hb
 clear hin hb
 unfold dcV
 unfold dcO at hW
 go_enter Try.func12,Try.ntmps12
 go_upto_region 1 with (fail)
 rw [← hW]
 clear hW
 by_cases hm:mayD d=0
 ·have hok:=mayD_ok hm
  have HOK:=Ak hok.1
  have HLEN:=Ak hok.2
  have HMV:=Ak hm
  have HE:=Ak (encB_ok hm)
  clear hok hm
  go_upto_region 4 with (first
   | (refine wpList_load_row rfl 30 _ rfl w.heap.size rfl 30 _ (0,0) _ HX.out Try.underlying30 rfl (by kernel_rfl) ?_)
   | (go_at_call 14;go_must (refine (refmayd_calls d P W (DcS.all (DcIn.stay HCS.out HB.out))).mono ?_;rintro e w1 ⟨rfl,hb⟩;rw [HMV.out];have HX1:=Ak ((hb.block _ (blk_lt HX.out)).trans HX.out);have HB1:=Ak (show Below w.heap.size w w1 from Below.trans HB.out (hb.mono HB.out.size));clear hb)))
  clear HX HB
  obtain ⟨base,hB0,hB1⟩:∃ base,base≤w1.heap.size∧w.heap.size<base:=⟨w1.heap.size,Nat.le_refl _,blk_lt HX1.out⟩
  have HNE:=Ak (show ∀ (w':World) (V:Value) (xs:List Int),OwnB w' base V xs→∀ k,V.ownBlock=some k→k≠w.heap.size from fun w' V xs h k hk=>by have:=own_base h k hk;omega)
  have HIN:=Ak (show ∀ w',Below w.heap.size w w'→DcIn w' base P d from fun w' h=>DcS.mono (DcIn.stay HCS.out h) (fun k hk _=>Nat.lt_trans hk hB1))
  have HFIN:=Ak (show ∀ (v':Value) (w':World) (zs:List Int),zs=dcB d→OwnB w' base v' zs→Below w.heap.size w w'→EncPost d w (.returned (.tuple #[v',.int .i64 0])) w' from fun v' w' zs hz h1 h2=>⟨v',by rw [HMV.out],own_mono (by rw [HE.out,← hz];exact h1) (Nat.le_of_lt hB1),h2⟩)
  refine rd_region w1 w.heap.size P d base HX1.out hB0 HOK.out.k1 HOK.out.k3 HOK.out.nm ?_
  intro w2 u5 u16 u19 u20 O8 O6 hch hv hO hv3 hO3
  have hl:=lit_left hch hv hO
  have HO2:=Ak hl.1
  have HX2:=Ak ((hl.2.1.block _ (blk_lt HX1.out)).trans HX1.out)
  have HB2:=Ak (show Below w.heap.size w w2 from Below.trans HB1.out (hl.2.1.mono HB1.out.size))
  have hb2:base≤w2.heap.size:=Nat.le_trans hB0 hl.2.1.size
  clear hch hv hO hv3 hO3 hl HX1 HB1
  have HS2:=Ak (show ([d.kind] ++ putB (bytesOf d.nm) ++ putN d.vars ++ tmB d.ty).length≤40000000 by have h:=HLEN.out;have e:=dc_front d [];simp only [List.nil_append] at e;rw [e] at h;simp only [List.length_append] at h ⊢;omega)
  go_upto_region 5 with (fail)
  refine re_region w2 w.heap.size P d base u5 _ HX2.out HO2.out hb2 (HNE.out _ _ _ HO2.out) (HIN.out _ HB2.out).ty HOK.out.ty HOK.out.v0 HOK.out.v6 (by have:=HS2.out;omega) ?_
  intro w3 u1 u25 u28 O hch hv hO
  have hl:=put_left hch hv hO
  have HO3:=Ak hl.1
  have HX3:=Ak (grew_hold hl.2 HO2.out HX2.out (HNE.out _ _ _ HO2.out))
  have HB3:=Ak (show Below w.heap.size w w3 from Below.trans HB2.out ((grew_still hl.2 HO2.out hb2).mono (Nat.le_of_lt hB1)))
  have hb3:base≤w3.heap.size:=Nat.le_trans hb2 hl.2.1.size
  clear hch hv hO hl HX2 HB2 HO2
  obtain ⟨c0,c1,c2,c3,c4,c5,c6,c7,c8,c9,c10,c11,c12,c13,c14,c15,c16,c17,c18,c19,c20⟩:=row21 HX3.out
  clear c1 c2 c3 c4 c5 c6 c7 c8 c9 c10 c19 c20
  by_cases k2:d.kind=2
  ·have HZ:=Ak (by have e:=dc_def k2 [];simp only [List.nil_append] at e;exact e.symm)
   have HS3:=Ak (show ([d.kind] ++ putB (bytesOf d.nm) ++ putN d.vars ++ tmB d.ty).length+(tmB d.val).length≤140737488350000 by rw [← List.length_append,HZ.out];have:=HLEN.out;omega)
   have HTO:=Ak (HOK.out.val k2)
   have e2:(d.kind == 2)=true:=by simp [k2]
   have HPV:=Ak (show ∀ w,TmIn w base P.pv d.val→OwnB w base u1 _→base≤w.heap.size→Calls Try.prog 31 #[u1,tmV P.pv d.val] w (PutPost base u1 _ (tmB d.val) w) from fun w h1 h2 h3=>refPutTerm_calls _ d.val (Nat.lt_succ_self _) HTO.out P.pv base u1 _ w h1 h2 h3 HS3.out)
   clear k2
   go_wp2_with (go_at_call 31;go_must (refine (HPV.out _ (HIN.out _ HB3.out).val HO3.out hb3).mono ?_;rintro e w4 ⟨v4,rfl,ho4,hg4⟩;have HO4:=Ak ho4;have HB4:=Ak (show Below w.heap.size w w4 from Below.trans HB3.out ((grew_still hg4 HO3.out hb3).mono (Nat.le_of_lt hB1)));clear ho4 hg4))
   go_ret2
   exact HFIN.out _ _ _ HZ.out HO4.out HB4.out
  ·have e2:(d.kind == 2)=false:=by simp [k2]
   by_cases k3:d.kind=3
   ·have HZ:=Ak (by have e:=dc_ind k3 [];simp only [List.nil_append] at e;exact e.symm)
    have HI:=Ak (HOK.out.ind k3)
    have e3:(d.kind == 3)=true:=by simp [k3]
    clear k2 k3 c11 c12 c13 c14 c15 c16 c17 c18
    have HS3:=Ak (show ([d.kind] ++ putB (bytesOf d.nm) ++ putN d.vars ++ tmB d.ty ++ putN d.params ++ (putN d.cs.length ++ ctsB d.cs)).length≤40000000 by rw [HZ.out];exact HLEN.out)
    go_upto_region 10 with (fail)
    refine rf_region w3 w.heap.size P d base u1 _ HX3.out HO3.out hb3 (HNE.out _ _ _ HO3.out) HI.out.2.1 HI.out.1.1 HI.out.1.2 (by have:=HS3.out;simp only [List.length_append] at this ⊢;omega) ?_
    intro w4 u6 u43 u48 O hch hv hO
    have hl:=put_left hch hv hO
    have HO4:=Ak hl.1
    have HX4:=Ak (grew_hold hl.2 HO3.out HX3.out (HNE.out _ _ _ HO3.out))
    have HB4:=Ak (show Below w.heap.size w w4 from Below.trans HB3.out ((grew_still hl.2 HO3.out hb3).mono (Nat.le_of_lt hB1)))
    have hb4:base≤w4.heap.size:=Nat.le_trans hb3 hl.2.1.size
    clear hch hv hO hl HX3 HB3 HO3 c0
    obtain ⟨c0,c1,c2,c3,c4,c5,c6,c7,c8,c9,c10,c11,c12,c13,c14,c15,c16,c17,c18,c19,c20⟩:=row21 HX4.out
    clear c0 c1 c2 c3 c4 c5 c6 c7 c8 c9 c10 c11 c12 c13 c14 c15 c16 c17 c18 c19
    obtain ⟨m,hm⟩:∃ m,d.cs.length=m:=⟨_,rfl⟩
    have HM:=Ak hm
    have hm9:m≤8:=by rw [← hm];exact HI.out.2.1
    rw [hm] at c20 ⊢
    clear hm
    go_wp2
    go_loopw [5,52] (fun u i wr=>∃ (k:Nat) (ys:List Int),i=.int .i64 k∧k≤m∧Aside0 (ys ++ ctsB (d.cs.drop k)=dcB d)∧Aside0 (OwnB wr base u ys)∧Aside0 (Below w.heap.size w wr)∧base≤wr.heap.size) (fun _ i _=>m - (intOf i).toNat)
    case atStart=>exact ⟨0,_,rfl,Nat.zero_le _,⟨by rw [List.drop_zero];rw [← HZ.out];simp only [List.append_assoc]⟩,HO4,HB4,hb4⟩
    case round =>
     clear HO4 HB4 HX4 c20 hb4
     obtain ⟨k,ys,rfl,hk,HEQ,HOR,HBR,hbr⟩:=hrel
     by_cases hlt:k<m
     ·have hlt2:k<d.cs.length:=by rw [HM.out];exact hlt
      obtain ⟨c,hc⟩:∃ c,d.cs[k]?=some c:=⟨_,List.getElem?_eq_getElem hlt2⟩
      obtain ⟨⟨bk,o,hA,hSb,hcells⟩,hty,-⟩:=(HIN.out _ HBR.out).ct k c hc
      have HAA:=Ak hA
      have d0:=hcells 0 _ rfl
      have d1:=hcells 1 _ rfl
      have d2:=hcells 2 _ rfl
      have d3:=hcells 3 _ rfl
      have d4:=hcells 4 _ rfl
      have d5:=hcells 5 _ rfl
      have d6:=hcells 6 _ rfl
      have d7:=hcells 7 _ rfl
      have d8:=hcells 8 _ rfl
      rw [Nat.add_zero] at d0
      have HTY:=Ak hty
      have HXO:=Ak (HI.out.2.2 k c hc)
      have HDK:=Ak (show ctsB (d.cs.drop k)=ctB c ++ ctsB (d.cs.drop (k+1)) by rw [drop_ct hc,ctsB_cons])
      have hl1:=congrArg List.length HEQ.out
      rw [HDK.out] at hl1
      simp only [List.length_append] at hl1
      have HBB:=Ak (show (ys ++ putB (bytesOf c.nm) ++ tmB c.ty).length≤140737488350000 by have:=HLEN.out;unfold ctB at hl1;simp only [List.length_append] at hl1 ⊢;omega)
      clear hcells hc hlt2 hl1 hty
      rw [hA]
      clear hA
      go_upto_region 14 with (fail)
      obtain ⟨W5,hW5⟩:∃ W5,W5=wr.alloc (ctO (P.q k) c):=⟨_,rfl⟩
      have HX5:=Ak (show W5.heap[wr.heap.size]?=some (ctO (P.q k) c) by rw [hW5];exact blk_new _ _)
      have hbw5:Below wr.heap.size wr W5:=by rw [hW5];exact below_alloc (Below.refl _ _) _
      have HO5:=Ak (show OwnB W5 base u5 ys by rw [hW5];exact World.ownsRow.alloc HOR.out _)
      have HTY5:=Ak (TmIn.stay HTY.out (hbw5.mono hbr))
      have HB5:=Ak (show Below w.heap.size w W5 from Below.trans HBR.out (hbw5.mono HBR.out.size))
      have HNE5:=Ak (show ∀ k,u5.ownBlock=some k→k≠wr.heap.size from fun k hk=>Nat.ne_of_lt (own_size HOR.out hk))
      have hb5:base≤W5.heap.size:=Nat.le_trans hbr hbw5.size
      clear hbw5
      unfold ctO at hW5
      rw [← hW5]
      clear hW5 HOR HTY HBR
      refine rc_region W5 wr.heap.size (P.q k) c base u5 ys HX5.out HO5.out hb5 HNE5.out HTY5.out HXO.out.2 HXO.out.1 HBB.out ?_
      intro w6 u7 u59 u60 u63 O8 O3 hch hv hO hv3 hO3
      have hl:=put_left hch hv hO
      have HO6:=Ak hl.1
      have HB6:=Ak (show Below w.heap.size w w6 from Below.trans HB5.out ((grew_still hl.2 HO5.out hb5).mono (Nat.le_of_lt hB1)))
      have hb6:base≤w6.heap.size:=Nat.le_trans hb5 hl.2.1.size
      clear hch hv hO hv3 hO3 hl
      go_wp2
      go_roundw
      case rel=>exact ⟨k+1,_,by go_num,by omega,⟨by rw [← HEQ.out,HDK.out];unfold ctB;simp only [List.append_assoc]⟩,HO6,HB6,hb6⟩
      case measure=>(simp [intOf];try omega)
     ·obtain rfl:k=m:=by omega
      have hlt':decide ((k:Int)<k)=false:=by simp
      have HZ2:=Ak (show ys=dcB d by rw [← HEQ.out,List.drop_of_length_le (by rw [HM.out];exact Nat.le_refl _)];simp [ctsB])
      go_wp2
      go_ret2
      exact HFIN.out _ _ _ HZ2.out HOR.out HBR.out
   ·have e3:(d.kind == 3)=false:=by simp [k3]
    have HZ:=Ak (by have e:=dc_ax k2 k3 [];simp only [List.nil_append] at e;exact e.symm)
    clear k2 k3
    go_wp2
    go_ret2
    exact HFIN.out _ _ _ HZ.out HO3.out HB3.out
 ·have HE:=Ak (encB_no hm)
  obtain ⟨e1,he1⟩:∃ e1,mayD d=e1:=⟨_,rfl⟩
  have HMV:=Ak he1
  rw [he1] at hm
  have hm':(e1 != 0)=true:=by simpa using hm
  clear hm he1
  go_wp2_with (first
   | (refine wpList_load_row rfl 30 _ rfl w.heap.size rfl 30 _ (0,0) _ HX.out Try.underlying30 rfl (by kernel_rfl) ?_)
   | (go_at_call 14;go_must (refine (refmayd_calls d P W (DcS.all (DcIn.stay HCS.out HB.out))).mono ?_;rintro e w1 ⟨rfl,hb⟩;rw [HMV.out];have HB1:=Ak (show Below w.heap.size w w1 from Below.trans HB.out (hb.mono HB.out.size));clear hb)))
  go_ret2
  exact ⟨.slice none 0 0,by rw [HMV.out];first | done | rfl,by rw [HE.out];exact ownB_nil _ _,HB1.out⟩
end Go.Proofs.Ytcgkeolgflphiaa

namespace Go.Proofs.Ytcgkeolgflphiaa
open Go.RowKit Go.Proofs.YtcgkeolgflphiaaW.PrintWords Go.RegionInvYtcgkeolgflphiaa Go.Proofs.YtcgkeolgflphiaaW.PrintMore Go.RegionEYtcgkeolgflphiaa

def dcC (P:DPl) (d:Dc):List Value:=[.int .i64 d.kind,.string d.nm,.int .i64 d.vars] ++ tmC P.pt d.ty ++ tmC P.pv d.val ++ [.int .i64 d.params,.slice P.C d.cs.length P.e]
def DcAt (w:World) (S:Nat→Prop) (L:Option Addr) (i:Nat) (P:DPl) (d:Dc):Prop:=
 ∃ b o,L=some ⟨b,o,none⟩∧S b∧∀ (j:Nat) (v:Value),(dcC P d)[j]?=some v→w.cell? ⟨b,o+i * 21+j,none⟩=some v
theorem DcAt.same {w w':World} {S:Nat→Prop} {L:Option Addr} {i:Nat} {P:DPl} {d:Dc} (h:DcAt w S L i P d) (hs:∀ k,S k→k<w.heap.size→w'.heap[k]?=w.heap[k]?):DcAt w' S L i P d:=by
 obtain ⟨b,o,e,hb,hc⟩:=h
 have hz:b<w.heap.size:=World.block_lt_of_cell? w _ (hc 0 _ rfl)
 exact ⟨b,o,e,hb,fun j v hv=>(cell_same (hs b hb hz)).trans (hc j v hv)⟩
theorem DcAt.mono {w:World} {S S':Nat→Prop} {L:Option Addr} {i:Nat} {P:DPl} {d:Dc} (h:DcAt w S L i P d) (hs:∀ k,S k→k<w.heap.size→S' k):DcAt w S' L i P d:=by
 obtain ⟨b,o,e,hb,hc⟩:=h
 exact ⟨b,o,e,hs b hb (World.block_lt_of_cell? w _ (hc 0 _ rfl)),hc⟩
def DcsS (w:World) (S:Nat→Prop) (L:Option Addr) (q:Nat→DPl) (ds:List Dc):Prop:=∀ (i:Nat) (d:Dc),ds[i]?=some d→DcAt w S L i (q i) d∧DcS w S (q i) d
theorem DcsS.same {w w':World} {S:Nat→Prop} {L:Option Addr} {q:Nat→DPl} {ds:List Dc} (h:DcsS w S L q ds) (hs:∀ k,S k→k<w.heap.size→w'.heap[k]?=w.heap[k]?):DcsS w' S L q ds:=
 fun i d hd=>⟨(h i d hd).1.same hs,(h i d hd).2.same hs⟩
theorem DcsS.mono {w:World} {S S':Nat→Prop} {L:Option Addr} {q:Nat→DPl} {ds:List Dc} (h:DcsS w S L q ds) (hs:∀ k,S k→k<w.heap.size→S' k):DcsS w S' L q ds:=
 fun i d hd=>⟨(h i d hd).1.mono hs,(h i d hd).2.mono hs⟩
abbrev DcsIn (w:World) (B:Nat) (L:Option Addr) (q:Nat→DPl) (ds:List Dc):Prop:=DcsS w (fun k=>k<B) L q ds
theorem DcsIn.stay {w w':World} {B:Nat} {L:Option Addr} {q:Nat→DPl} {ds:List Dc} (h:DcsIn w B L q ds) (hb:Below B w w'):DcsIn w' B L q ds:=DcsS.same h fun k hk _=>hb.block k hk
theorem DcsS.all {w:World} {S:Nat→Prop} {L:Option Addr} {q:Nat→DPl} {ds:List Dc} (h:DcsS w S L q ds):DcsIn w w.heap.size L q ds:=h.mono fun _ _ hk=>hk
def dcsB:List Dc→List Int
 | []=>[]
 | d :: r=>dcB d ++ dcsB r
theorem dcsB_cons (d:Dc) (r:List Dc):dcsB (d :: r)=dcB d ++ dcsB r:=rfl
theorem drop_dc {cs:List Dc} {i:Nat} {x:Dc} (h:cs[i]?=some x):cs.drop i=x :: cs.drop (i+1):=by
 have hlt:i<cs.length:=by
  rcases Nat.lt_or_ge i cs.length with h' | h'
  ·exact h'
  ·rw [List.getElem?_eq_none h'] at h;cases h
 rw [List.drop_eq_getElem_cons hlt]
 rw [List.getElem?_eq_getElem hlt] at h
 rw [Option.some.inj h]
theorem all_one {l:List Value} (h:l.all (·.oneCell')=true):l.toArray.all (·.oneCell')=true:=by rw [List.all_toArray];exact h
abbrev dcA (P:DPl) (d:Dc):Array Value:=#[.int .i64 d.kind,.string d.nm,.int .i64 d.vars,.int .i64 d.ty.kind,.int .i64 d.ty.num,.string d.ty.name,.int .i64 d.ty.lv.kind,.int .i64 d.ty.lv.num,.slice P.pt.A d.ty.lv.kids.length P.pt.c,.slice P.pt.B d.ty.ls.length P.pt.d,.slice P.pt.K d.ty.kids.length P.pt.e,.int .i64 d.val.kind,.int .i64 d.val.num,.string d.val.name,.int .i64 d.val.lv.kind,.int .i64 d.val.lv.num,.slice P.pv.A d.val.lv.kids.length P.pv.c,.slice P.pv.B d.val.ls.length P.pv.d,.slice P.pv.K d.val.kids.length P.pv.e,.int .i64 d.params,.slice P.C d.cs.length P.e]
abbrev zdcA:Array Value:=#[.int .i64 0,.string ⟨#[]⟩,.int .i64 0,.int .i64 0,.int .i64 0,.string ⟨#[]⟩,.int .i64 0,.int .i64 0,.slice none 0 0,.slice none 0 0,.slice none 0 0,.int .i64 0,.int .i64 0,.string ⟨#[]⟩,.int .i64 0,.int .i64 0,.slice none 0 0,.slice none 0 0,.slice none 0 0,.int .i64 0,.slice none 0 0]
theorem dc_boxed (w:World) (P:DPl) (d:Dc):((w.alloc (.cells zdcA 30 (0,0))).setRow w.heap.size (dcA P d)).heap[w.heap.size]?=some (dcO P d)∧Below w.heap.size w ((w.alloc (.cells zdcA 30 (0,0))).setRow w.heap.size (dcA P d)):=
 ⟨setRow_heap _ _ _ _ _ _ (blk_new _ _),below_setRow (below_alloc (Below.refl _ _) _) (Nat.le_refl _) _⟩
theorem grew_below_left {v v':Value} {w w1 w':World} (hb:Below w.heap.size w w1) (h:Grew v v' w1 w'):Grew v v' w w':=
 ⟨⟨h.1.os.trans hb.os,h.1.tape.trans hb.tape,h.1.output.trans hb.output,Nat.le_trans hb.size h.1.size,fun k hk hs=>(h.1.block k (Nat.lt_of_lt_of_le hk hb.size) hs).trans (hb.block k hk)⟩,fun k hk=>(h.2 k hk).imp id fun h=>Nat.le_trans hb.size h⟩
theorem notNil_dc (W:World):(binOp .eql 58 (.func (.func 29) #[] #[]) .nilFunc).run Try.prog W=.ok (.bool false) W:=by kernel_rfl
set_option maxRecDepth 100000 in
set_option maxHeartbeats 8000000 in
theorem putDecls_calls (ds:List Dc) (hok:∀ (i:Nat) (d:Dc),ds[i]?=some d→dcOk d) (A:Option Addr) (m e:Nat) (q:Nat→DPl) (base:Nat) (v:Value) (xs:List Int) (w:World) (hm:m=ds.length) (hm8:m≤1000) (hin:DcsIn w base A q ds) (ho:OwnB w base v xs) (hb:base≤w.heap.size) (hsz:xs.length+(putN ds.length ++ dcsB ds).length≤140737488350000) :
  Calls Try.prog 41 #[v,.slice A m e,.func (.func 29) #[] #[]] w (PutPost base v xs (putN ds.length ++ dcsB ds) w):=by
 have HM:=Ak hm
 have HIN:=Ak hin
 have HO:=Ak ho
 have HOK:=Ak hok
 rw [List.length_append] at hsz
 have HSZ:=Ak hsz
 have hnil:=notNil_dc
 rw [← hm]
 rw [← hm] at hsz
 have hx0:xs.length≤140737488350000:=by omega
 clear hin ho hok hsz hm
 go_enter Try.func41,Try.ntmps41
 go_wp2_with (first
  | (go_at_call 57;go_must (refine (put_grew base v xs (m:Int) _ HO.out hb (by omega) (by omega) (by omega)).mono ?_;rintro e w1 ⟨v1,rfl,ho,hg⟩;have HO1:=Ak ho;have HG1:=Ak hg;clear ho hg)))
 go_loopw [7,21] (fun u i wr=>∃ (k:Nat) (ys:List Int),i=.int .i64 k∧k≤m∧Aside0 (ys ++ dcsB (ds.drop k)=xs ++ (putN (m:Int) ++ dcsB ds))∧Aside0 (OwnB wr base u ys)∧Aside0 (Grew v u w wr)) (fun _ i _=>m - (intOf i).toNat)
 case atStart=>exact ⟨0,_,rfl,Nat.zero_le _,⟨by rw [List.drop_zero];simp only [List.append_assoc]⟩,HO1,HG1⟩
 case round =>
  clear HO1 HG1
  obtain ⟨k,ys,rfl,hk,HE,HOR,HGR⟩:=hrel
  by_cases hlt:k<m
  ·have hlt2:k<ds.length:=by rw [← HM.out];exact hlt
   obtain ⟨c,hc⟩:∃ c,ds[k]?=some c:=⟨_,List.getElem?_eq_getElem hlt2⟩
   have hst:=grew_still HGR.out HO.out hb
   obtain ⟨⟨bk,o,hA,hSb,hcells⟩,hty⟩:=HIN.out k c hc
   have hbk:∀ j x,(dcC (q k) c)[j]?=some x→wr.cell? ⟨bk,o+k * 21+j,none⟩=some x:=fun j x hx=>(cell_same (hst.block bk hSb)).trans (hcells j x hx)
   have HAA:=Ak hA
   have HRG:=Ak (show wr.rangeAt bk (o+k * 21) (dcC (q k) c) from hbk)
   have HTY:=Ak (DcIn.stay hty hst)
   have HXO:=Ak (HOK.out k c hc)
   have HDK:=Ak (show dcsB (ds.drop k)=dcB c ++ dcsB (ds.drop (k+1)) by rw [drop_dc hc,dcsB_cons])
   have hl1:=congrArg List.length HE.out
   rw [HDK.out] at hl1
   simp only [List.length_append] at hl1
   have hbr:base≤wr.heap.size:=Nat.le_trans hb HGR.out.1.size
   have HBB:=Ak (show ys.length+(dcB c).length≤140737488350000 by have:=HSZ.out;rw [← HM.out] at this;omega)
   have HXV:=Ak (show ∀ w,DcIn w base (q k) c→OwnB w base u7 ys→base≤w.heap.size→Calls Try.prog 29 #[u7,dcV (q k) c] w (PutPost base u7 ys (dcB c) w) from fun w h1 h2 h3=>putDecl_calls c (q k) base u7 ys w HXO.out h1 h2 h3 HBB.out)
   clear hcells hbk hc hlt2 hl1 hty hst
   rw [hA]
   clear hA
   go_upto_region 7 with (first | (refine wpList_load_mid rfl 30 _ rfl bk (o+k * 21) rfl [.int .i64 c.kind,.string c.nm,.int .i64 c.vars,.int .i64 c.ty.kind,.int .i64 c.ty.num,.string c.ty.name,.int .i64 c.ty.lv.kind,.int .i64 c.ty.lv.num,.slice (q k).pt.A c.ty.lv.kids.length (q k).pt.c,.slice (q k).pt.B c.ty.ls.length (q k).pt.d,.slice (q k).pt.K c.ty.kids.length (q k).pt.e,.int .i64 c.val.kind,.int .i64 c.val.num,.string c.val.name,.int .i64 c.val.lv.kind,.int .i64 c.val.lv.num,.slice (q k).pv.A c.val.lv.kids.length (q k).pv.c,.slice (q k).pv.B c.val.ls.length (q k).pv.d,.slice (q k).pv.K c.val.kids.length (q k).pv.e,.int .i64 c.params,.slice (q k).C c.cs.length (q k).e] _ HRG.out Try.underlying30 rfl (by kernel_rfl) ?_) | (refine wpList_store_row rfl 30 _ _ rfl wr.heap.size #[.int .i64 c.kind,.string c.nm,.int .i64 c.vars,.int .i64 c.ty.kind,.int .i64 c.ty.num,.string c.ty.name,.int .i64 c.ty.lv.kind,.int .i64 c.ty.lv.num,.slice (q k).pt.A c.ty.lv.kids.length (q k).pt.c,.slice (q k).pt.B c.ty.ls.length (q k).pt.d,.slice (q k).pt.K c.ty.kids.length (q k).pt.e,.int .i64 c.val.kind,.int .i64 c.val.num,.string c.val.name,.int .i64 c.val.lv.kind,.int .i64 c.val.lv.num,.slice (q k).pv.A c.val.lv.kids.length (q k).pv.c,.slice (q k).pv.B c.val.ls.length (q k).pv.d,.slice (q k).pv.K c.val.kids.length (q k).pv.e,.int .i64 c.params,.slice (q k).C c.cs.length (q k).e] rfl rfl 30 #[.int .i64 0,.string ⟨#[]⟩,.int .i64 0,.int .i64 0,.int .i64 0,.string ⟨#[]⟩,.int .i64 0,.int .i64 0,.slice none 0 0,.slice none 0 0,.slice none 0 0,.int .i64 0,.int .i64 0,.string ⟨#[]⟩,.int .i64 0,.int .i64 0,.slice none 0 0,.slice none 0 0,.slice none 0 0,.int .i64 0,.slice none 0 0] (blk_new _ _) (by kernel_rfl) rfl (all_one (l:=[.int .i64 c.kind,.string c.nm,.int .i64 c.vars,.int .i64 c.ty.kind,.int .i64 c.ty.num,.string c.ty.name,.int .i64 c.ty.lv.kind,.int .i64 c.ty.lv.num,.slice (q k).pt.A c.ty.lv.kids.length (q k).pt.c,.slice (q k).pt.B c.ty.ls.length (q k).pt.d,.slice (q k).pt.K c.ty.kids.length (q k).pt.e,.int .i64 c.val.kind,.int .i64 c.val.num,.string c.val.name,.int .i64 c.val.lv.kind,.int .i64 c.val.lv.num,.slice (q k).pv.A c.val.lv.kids.length (q k).pv.c,.slice (q k).pv.B c.val.ls.length (q k).pv.d,.slice (q k).pv.K c.val.kids.length (q k).pv.e,.int .i64 c.params,.slice (q k).C c.cs.length (q k).e]) rfl) ?_))
   obtain ⟨W5,hW5⟩:∃ W5,W5=(wr.alloc (.cells zdcA 30 (0,0))).setRow wr.heap.size (dcA (q k) c):=⟨_,rfl⟩
   have hs5:=dc_boxed wr (q k) c
   rw [← hW5] at hs5
   have HX5:=Ak hs5.1
   have HB5:=Ak hs5.2
   unfold zdcA dcA at hW5
   rw [← hW5]
   clear hW5 hs5
   go_wp2_with (first
    | (refine wpList_load_row rfl 30 _ rfl wr.heap.size rfl 30 _ (0,0) _ HX5.out Try.underlying30 rfl (by kernel_rfl) ?_)
    | (go_at_call 29;go_must (refine (HXV.out _ (by exact DcIn.stay HTY.out (HB5.out.mono hbr)) (pw_own_below HOR.out HB5.out) (Nat.le_trans hbr HB5.out.size)).mono ?_;rintro e w3 ⟨v3,rfl,ho3,hg3⟩;have HO3:=Ak ho3;have HG3:=Ak (HGR.out.trans (grew_below_left HB5.out hg3));clear ho3 hg3)))
   go_roundw
   case rel=>exact ⟨k+1,ys ++ dcB c,by go_num,by omega,⟨by rw [← HE.out,HDK.out,List.append_assoc]⟩,HO3,HG3⟩
   case measure=>(simp [intOf];try omega)
  ·obtain rfl:k=m:=by omega
   have hlt':decide ((k:Int)<k)=false:=by simp
   have HZ2:=Ak (show ys=xs ++ (putN (k:Int) ++ dcsB ds) by rw [← HE.out,List.drop_of_length_le (by rw [← HM.out];exact Nat.le_refl _)];simp [dcsB])
   go_wp2
   go_ret
   exact ⟨_,rfl,by rw [← HZ2.out];exact HOR.out,HGR.out⟩
end Go.Proofs.Ytcgkeolgflphiaa

namespace Go.Proofs.Ytcgkeolgflphiaa
open Go.RowKit Go.Proofs.YtcgkeolgflphiaaW.PrintWords Go.RegionInvYtcgkeolgflphiaa Go.Proofs.YtcgkeolgflphiaaW.PrintMore Go.RegionEYtcgkeolgflphiaa

theorem LvS.leaf0 (w:World) (S:Nat→Prop) (k n:Int):LvS w S none 0 (.mk k n []):=.mk (fun _=>none) (fun _=>0) (by simp) (by omega) (fun i x h=>by simp at h) (fun i x h=>by simp at h)
theorem TmS.leaf {w:World} {S:Nat→Prop} {A:Option Addr} {c:Nat} {l:Lv} (h:LvS w S A c l) (k n:Int) (hn:-9223372036854775808≤n∧n≤9223372036854775807):TmS w S ⟨A,c,none,0,none,0⟩ (.mk k n ByteArray.empty l [] []):=
 .mk (fun _=>default) h (LvS.leaf0 _ _ _ _) (by simp) (by simp) ⟨hn,by simp,by simp⟩ (fun i x h=>by simp at h) (fun i x h=>by simp at h)
set_option maxHeartbeats 4000000 in
theorem refSort_calls (A:Option Addr) (c:Nat) (l:Lv) (w:World) :
  Calls Try.prog 38 #[lvV A c l] w fun e w'=>e=.returned (tmV ⟨A,c,none,0,none,0⟩ (.mk 2 0 ByteArray.empty l [] []))∧Below w.heap.size w w':=by
 unfold lvV
 go_enter Try.func38,Try.ntmps38
 go_wp2
 refine bodyPost_ret (results_c rfl _ _ (w.heap.size+1) 27 #[.int .i64 2,.int .i64 0,.string ByteArray.empty,.int .i64 l.kind,.int .i64 l.num,.slice A l.kids.length c,.slice none 0 0,.slice none 0 0] (0,0) _ rfl (by have:=blk_new (w.alloc (.cells #[.int .i64 l.kind,.int .i64 l.num,.slice A l.kids.length c] 24 (0,0))) (.cells #[.int .i64 2,.int .i64 0,.string ByteArray.empty,.int .i64 l.kind,.int .i64 l.num,.slice A l.kids.length c,.slice none 0 0,.slice none 0 0] 27 (0,0));simp only [World.size_alloc] at this;exact this) Try.underlying27 rfl (by kernel_rfl)) rfl ?_
 exact ⟨rfl,below_alloc (below_alloc (Below.refl _ _) _) _⟩
def d0:Dc:=⟨1,⟨#[97]⟩,0,.mk 2 0 ByteArray.empty (.mk 1 0 []) [] [],.mk 0 0 ByteArray.empty (.mk 0 0 []) [] [],0,[]⟩
def p0:DPl:=⟨⟨none,0,none,0,none,0⟩,⟨none,0,none,0,none,0⟩,none,0,fun _=>default⟩
theorem d0_may:mayD d0=0:=by
 have ht:mayT 0 d0.ty=0:=by
  unfold mayT
  rw [mt_leaf (by decide) (by kernel_rfl) (by kernel_rfl)]
 have hn:nameB d0.nm=true:=by kernel_rfl
 rw [d_rest (by decide) hn (by decide) (by decide) ht,if_neg (by decide),if_neg (by decide)]
theorem d0_bytes:encB d0=[1,1,97,0,2,1,0]:=by
 rw [encB_ok d0_may]
 kernel_rfl
theorem d0_in (w:World) (B:Nat):DcIn w B p0 d0:=
 ⟨TmS.leaf (LvS.leaf0 _ _ _ _) _ _ (by decide),TmS.leaf (LvS.leaf0 _ _ _ _) _ _ (by decide),by decide,by decide,fun i c h=>by simp [d0] at h⟩
theorem d0_str:strOfNums [1,1,97,0,2,1,0]=⟨#[1,1,97,0,2,1,0]⟩:=by kernel_rfl
set_option maxRecDepth 100000 in
set_option maxHeartbeats 8000000 in
theorem awake_calls (w:World):Calls Try.prog 15 #[] w fun e w'=>e=.returned (.bool true)∧Below w.heap.size w w':=by
 go_enter Try.func15,Try.ntmps15
 go_upto_region 2 with (first
  | (go_at_call 38;go_must (refine (refSort_calls none 0 (.mk 1 0 []) w).mono ?_;rintro e w1 ⟨rfl,hb⟩;have HB1:=Ak hb;clear hb;unfold tmV;dsimp only [Tm.kind,Tm.num,Tm.name,Tm.lv,Tm.ls,Tm.kids,Lv.kind,Lv.num,Lv.kids,List.length_nil]))
  | (go_at_call 11;go_must (refine (encode_calls d0 p0 w1 (d0_in _ _)).mono ?_;rintro e w2 ⟨v2,rfl,ho,hb⟩;rw [d0_bytes] at ho;rw [d0_may];obtain ⟨A2,c2,rfl,hr⟩:=own_reads ho;have HR2:=Ak (show ReadsInt w2 .u8 A2 7 [1,1,97,0,2,1,0] from hr);have HB2:=Ak (below_then HB1.out HB1.out.size hb);clear ho hb hr)))
 have h2:=string_of_reads Try.underlying31 Try.underlying5 Try.underlying9 (c:=c2) HR2.out
 rw [d0_str] at h2
 go_wp2
 go_ret
 exact ⟨rfl,HB2.out⟩
end Go.Proofs.Ytcgkeolgflphiaa

namespace Go.Proofs.Ytcgkeolgflphiaa
open Go.RowKit Go.Proofs.YtcgkeolgflphiaaW.PrintWords Go.RegionInvYtcgkeolgflphiaa Go.Proofs.YtcgkeolgflphiaaW.PrintMore Go.RegionEYtcgkeolgflphiaa

def mayAll:List Dc→Int
 | []=>0
 | d :: r=>if mayD d≠0 then mayD d else mayAll r
theorem all_no {d:Dc} {r:List Dc} (h:mayD d≠0):mayAll (d :: r)=mayD d:=by rw [mayAll,if_pos h]
theorem all_go {d:Dc} {r:List Dc} (h:mayD d=0):mayAll (d :: r)=mayAll r:=by rw [mayAll,if_neg (fun k=>k h)]
theorem all_each:∀ {ds:List Dc},mayAll ds=0→∀ (i:Nat) (d:Dc),ds[i]?=some d→mayD d=0
 | [],_,i,d,h=>by simp at h
 | x :: r,h,i,d,hd=>by
  by_cases hx:mayD x=0
  ·rw [all_go hx] at h
   cases i with
   | zero=>simp at hd;subst hd;exact hx
   | succ j=>exact all_each h j d (by simpa using hd)
  ·rw [all_no hx] at h;exact absurd h hx
theorem dcsB_len:∀ {ds:List Dc},mayAll ds=0→(dcsB ds).length≤40000000 * ds.length
 | [],_=>by simp [dcsB]
 | x :: r,h=>by
  by_cases hx:mayD x=0
  ·rw [all_go hx] at h
   have h1:=dcsB_len h
   have h2:=(mayD_ok hx).2
   rw [dcsB_cons,List.length_append,List.length_cons]
   omega
  ·rw [all_no hx] at h;exact absurd h hx
def bunE (ds:List Dc):Int:=if 16<ds.length then 18 else if mayAll ds≠0 then mayAll ds else if 8192<(putN ds.length ++ dcsB ds).length then 2 else 0
def bunB (ds:List Dc):List Int:=if bunE ds=0 then putN ds.length ++ dcsB ds else []
theorem bun_many {ds:List Dc} (h:16<ds.length):bunE ds=18:=if_pos h
theorem bun_may {ds:List Dc} (h:¬ 16<ds.length) (h2:mayAll ds≠0):bunE ds=mayAll ds:=by unfold bunE;rw [if_neg h,if_pos h2]
theorem bun_long {ds:List Dc} (h:¬ 16<ds.length) (h2:mayAll ds=0) (h3:8192<(putN ds.length ++ dcsB ds).length):bunE ds=2:=by unfold bunE;rw [if_neg h,if_neg (fun k=>k h2),if_pos h3]
theorem bun_ok {ds:List Dc} (h:¬ 16<ds.length) (h2:mayAll ds=0) (h3:¬ 8192<(putN ds.length ++ dcsB ds).length):bunE ds=0:=by unfold bunE;rw [if_neg h,if_neg (fun k=>k h2),if_neg h3]
theorem bunB_no {ds:List Dc} {e:Int} (h:bunE ds=e) (he:e≠0):bunB ds=[]:=if_neg (by rw [h];exact he)
theorem bunB_ok {ds:List Dc} (h:bunE ds=0):bunB ds=putN ds.length ++ dcsB ds:=if_pos h
def BunPost (ds:List Dc) (w:World) (e:Ending) (w':World):Prop:=∃ v,e=.returned (.tuple #[v,.int .i64 (bunE ds)])∧OwnB w' w.heap.size v (bunB ds)∧Below w.heap.size w w'
theorem BunPost.no {ds:List Dc} {w w':World} {e:Int} (h:bunE ds=e) (he:e≠0) (hb:Below w.heap.size w w'):BunPost ds w (.returned (.tuple #[.slice none 0 0,.int .i64 e])) w':=
 ⟨_,by rw [h],by rw [bunB_no h he];exact ownB_nil _ _,hb⟩
theorem BunPost.ok {ds:List Dc} {w w':World} {v:Value} {ys:List Int} (h:bunE ds=0) (hy:ys=putN ds.length ++ dcsB ds) (ho:OwnB w' w.heap.size v ys) (hb:Below w.heap.size w w'):BunPost ds w (.returned (.tuple #[v,.int .i64 0])) w':=
 ⟨v,by rw [h],by rw [bunB_ok h,← hy];exact ho,hb⟩
set_option maxRecDepth 100000 in
set_option maxHeartbeats 8000000 in
theorem bundle_calls (ds:List Dc) (L:Option Addr) (n e:Nat) (q:Nat→DPl) (w:World) (hn:n=ds.length) (hin:DcsIn w w.heap.size L q ds) (hn9:n≤9223372036854775807) :
  Calls Try.prog 19 #[.slice L n e] w (BunPost ds w):=by
 have HIN:=Ak hin
 have HM:=Ak hn
 clear hin hn
 go_enter Try.func19,Try.ntmps19
 by_cases h16:16<n
 ·have HE:=Ak (bun_many (by rw [← HM.out];exact h16))
  have h16':(16:Int)<n:=by omega
  go_wp2
  go_ret2
  exact BunPost.no HE.out (by decide) (Below.refl _ _)
 ·have HS:=Ak (show ¬ 16<ds.length by rw [← HM.out];exact h16)
  have h16':¬ (16:Int)<n:=by omega
  go_wp2
  go_loopw [13] (fun i wr=>∃ k:Nat,i=.int .i64 k∧k≤n∧Aside0 (mayAll (ds.drop k)=mayAll ds)∧Aside0 (Below w.heap.size w wr)) (fun i _=>n - (intOf i).toNat)
  case atStart=>exact ⟨0,rfl,Nat.zero_le _,⟨rfl⟩,⟨Below.refl _ _⟩⟩
  case round =>
   obtain ⟨k,rfl,hk,HK,HBR⟩:=hrel
   by_cases hlt:k<n
   ·have hlt2:k<ds.length:=by rw [← HM.out];exact hlt
    obtain ⟨c,hc⟩:∃ c,ds[k]?=some c:=⟨_,List.getElem?_eq_getElem hlt2⟩
    obtain ⟨⟨bk,o,hA,hSb,hcells⟩,hty⟩:=(DcsIn.stay HIN.out HBR.out) k c hc
    have HAA:=Ak hA
    have HRG:=Ak (show wr.rangeAt bk (o+k * 21) (dcC (q k) c) from hcells)
    have HTY:=Ak hty
    have HDR:=Ak (drop_dc hc)
    rw [hA]
    clear hA hcells hc hlt2 hty
    by_cases hmd:mayD c=0
    ·have HMV:=Ak hmd
     clear hmd
     go_upto_region 6 with (first | (refine wpList_load_mid rfl 30 _ rfl bk (o+k * 21) rfl [.int .i64 c.kind,.string c.nm,.int .i64 c.vars,.int .i64 c.ty.kind,.int .i64 c.ty.num,.string c.ty.name,.int .i64 c.ty.lv.kind,.int .i64 c.ty.lv.num,.slice (q k).pt.A c.ty.lv.kids.length (q k).pt.c,.slice (q k).pt.B c.ty.ls.length (q k).pt.d,.slice (q k).pt.K c.ty.kids.length (q k).pt.e,.int .i64 c.val.kind,.int .i64 c.val.num,.string c.val.name,.int .i64 c.val.lv.kind,.int .i64 c.val.lv.num,.slice (q k).pv.A c.val.lv.kids.length (q k).pv.c,.slice (q k).pv.B c.val.ls.length (q k).pv.d,.slice (q k).pv.K c.val.kids.length (q k).pv.e,.int .i64 c.params,.slice (q k).C c.cs.length (q k).e] _ HRG.out Try.underlying30 rfl (by kernel_rfl) ?_) | (refine wpList_store_row rfl 30 _ _ rfl wr.heap.size #[.int .i64 c.kind,.string c.nm,.int .i64 c.vars,.int .i64 c.ty.kind,.int .i64 c.ty.num,.string c.ty.name,.int .i64 c.ty.lv.kind,.int .i64 c.ty.lv.num,.slice (q k).pt.A c.ty.lv.kids.length (q k).pt.c,.slice (q k).pt.B c.ty.ls.length (q k).pt.d,.slice (q k).pt.K c.ty.kids.length (q k).pt.e,.int .i64 c.val.kind,.int .i64 c.val.num,.string c.val.name,.int .i64 c.val.lv.kind,.int .i64 c.val.lv.num,.slice (q k).pv.A c.val.lv.kids.length (q k).pv.c,.slice (q k).pv.B c.val.ls.length (q k).pv.d,.slice (q k).pv.K c.val.kids.length (q k).pv.e,.int .i64 c.params,.slice (q k).C c.cs.length (q k).e] rfl rfl 30 #[.int .i64 0,.string ⟨#[]⟩,.int .i64 0,.int .i64 0,.int .i64 0,.string ⟨#[]⟩,.int .i64 0,.int .i64 0,.slice none 0 0,.slice none 0 0,.slice none 0 0,.int .i64 0,.int .i64 0,.string ⟨#[]⟩,.int .i64 0,.int .i64 0,.slice none 0 0,.slice none 0 0,.slice none 0 0,.int .i64 0,.slice none 0 0] (blk_new _ _) (by kernel_rfl) rfl (all_one (l:=[.int .i64 c.kind,.string c.nm,.int .i64 c.vars,.int .i64 c.ty.kind,.int .i64 c.ty.num,.string c.ty.name,.int .i64 c.ty.lv.kind,.int .i64 c.ty.lv.num,.slice (q k).pt.A c.ty.lv.kids.length (q k).pt.c,.slice (q k).pt.B c.ty.ls.length (q k).pt.d,.slice (q k).pt.K c.ty.kids.length (q k).pt.e,.int .i64 c.val.kind,.int .i64 c.val.num,.string c.val.name,.int .i64 c.val.lv.kind,.int .i64 c.val.lv.num,.slice (q k).pv.A c.val.lv.kids.length (q k).pv.c,.slice (q k).pv.B c.val.ls.length (q k).pv.d,.slice (q k).pv.K c.val.kids.length (q k).pv.e,.int .i64 c.params,.slice (q k).C c.cs.length (q k).e]) rfl) ?_))
     obtain ⟨W5,hW5⟩:∃ W5,W5=(wr.alloc (.cells zdcA 30 (0,0))).setRow wr.heap.size (dcA (q k) c):=⟨_,rfl⟩
     have hs5:=dc_boxed wr (q k) c
     rw [← hW5] at hs5
     have HX5:=Ak hs5.1
     have HB5:=Ak hs5.2
     have HBW5:=Ak (show Below w.heap.size w W5 from Below.trans HBR.out (hs5.2.mono HBR.out.size))
     unfold zdcA dcA at hW5
     rw [← hW5]
     clear hW5 hs5
     go_wp2_with (first
      | (refine wpList_load_row rfl 30 _ rfl wr.heap.size rfl 30 _ (0,0) _ HX5.out Try.underlying30 rfl (by kernel_rfl) ?_)
      | (go_at_call 13;go_must (refine (mayd_calls c (q k) W5 (DcS.all (DcIn.stay HTY.out (HB5.out.mono HBR.out.size)))).mono ?_;rintro e w6 ⟨rfl,hb⟩;rw [HMV.out];have HB6:=Ak (show Below w.heap.size w w6 from Below.trans HBW5.out (hb.mono HBW5.out.size));clear hb)))
     go_roundw
     case rel=>exact ⟨k+1,by go_num,by omega,⟨by rw [← HK.out,HDR.out,all_go HMV.out]⟩,HB6⟩
     case measure=>(simp [intOf];try omega)
    ·have HE:=Ak (show mayAll ds=mayD c by rw [← HK.out,HDR.out,all_no hmd])
     obtain ⟨e1,he1⟩:∃ e1,mayD c=e1:=⟨_,rfl⟩
     rw [he1] at hmd HE
     have HMV:=Ak he1
     have HBE:=Ak (bun_may HS.out (by rw [HE.out];exact hmd))
     have hm':(e1 != 0)=true:=by simpa using hmd
     clear hmd he1
     go_upto_region 6 with (first | (refine wpList_load_mid rfl 30 _ rfl bk (o+k * 21) rfl [.int .i64 c.kind,.string c.nm,.int .i64 c.vars,.int .i64 c.ty.kind,.int .i64 c.ty.num,.string c.ty.name,.int .i64 c.ty.lv.kind,.int .i64 c.ty.lv.num,.slice (q k).pt.A c.ty.lv.kids.length (q k).pt.c,.slice (q k).pt.B c.ty.ls.length (q k).pt.d,.slice (q k).pt.K c.ty.kids.length (q k).pt.e,.int .i64 c.val.kind,.int .i64 c.val.num,.string c.val.name,.int .i64 c.val.lv.kind,.int .i64 c.val.lv.num,.slice (q k).pv.A c.val.lv.kids.length (q k).pv.c,.slice (q k).pv.B c.val.ls.length (q k).pv.d,.slice (q k).pv.K c.val.kids.length (q k).pv.e,.int .i64 c.params,.slice (q k).C c.cs.length (q k).e] _ HRG.out Try.underlying30 rfl (by kernel_rfl) ?_) | (refine wpList_store_row rfl 30 _ _ rfl wr.heap.size #[.int .i64 c.kind,.string c.nm,.int .i64 c.vars,.int .i64 c.ty.kind,.int .i64 c.ty.num,.string c.ty.name,.int .i64 c.ty.lv.kind,.int .i64 c.ty.lv.num,.slice (q k).pt.A c.ty.lv.kids.length (q k).pt.c,.slice (q k).pt.B c.ty.ls.length (q k).pt.d,.slice (q k).pt.K c.ty.kids.length (q k).pt.e,.int .i64 c.val.kind,.int .i64 c.val.num,.string c.val.name,.int .i64 c.val.lv.kind,.int .i64 c.val.lv.num,.slice (q k).pv.A c.val.lv.kids.length (q k).pv.c,.slice (q k).pv.B c.val.ls.length (q k).pv.d,.slice (q k).pv.K c.val.kids.length (q k).pv.e,.int .i64 c.params,.slice (q k).C c.cs.length (q k).e] rfl rfl 30 #[.int .i64 0,.string ⟨#[]⟩,.int .i64 0,.int .i64 0,.int .i64 0,.string ⟨#[]⟩,.int .i64 0,.int .i64 0,.slice none 0 0,.slice none 0 0,.slice none 0 0,.int .i64 0,.int .i64 0,.string ⟨#[]⟩,.int .i64 0,.int .i64 0,.slice none 0 0,.slice none 0 0,.slice none 0 0,.int .i64 0,.slice none 0 0] (blk_new _ _) (by kernel_rfl) rfl (all_one (l:=[.int .i64 c.kind,.string c.nm,.int .i64 c.vars,.int .i64 c.ty.kind,.int .i64 c.ty.num,.string c.ty.name,.int .i64 c.ty.lv.kind,.int .i64 c.ty.lv.num,.slice (q k).pt.A c.ty.lv.kids.length (q k).pt.c,.slice (q k).pt.B c.ty.ls.length (q k).pt.d,.slice (q k).pt.K c.ty.kids.length (q k).pt.e,.int .i64 c.val.kind,.int .i64 c.val.num,.string c.val.name,.int .i64 c.val.lv.kind,.int .i64 c.val.lv.num,.slice (q k).pv.A c.val.lv.kids.length (q k).pv.c,.slice (q k).pv.B c.val.ls.length (q k).pv.d,.slice (q k).pv.K c.val.kids.length (q k).pv.e,.int .i64 c.params,.slice (q k).C c.cs.length (q k).e]) rfl) ?_))
     obtain ⟨W5,hW5⟩:∃ W5,W5=(wr.alloc (.cells zdcA 30 (0,0))).setRow wr.heap.size (dcA (q k) c):=⟨_,rfl⟩
     have hs5:=dc_boxed wr (q k) c
     rw [← hW5] at hs5
     have HX5:=Ak hs5.1
     have HB5:=Ak hs5.2
     have HBW5:=Ak (show Below w.heap.size w W5 from Below.trans HBR.out (hs5.2.mono HBR.out.size))
     unfold zdcA dcA at hW5
     rw [← hW5]
     clear hW5 hs5
     go_wp2_with (first
      | (refine wpList_load_row rfl 30 _ rfl wr.heap.size rfl 30 _ (0,0) _ HX5.out Try.underlying30 rfl (by kernel_rfl) ?_)
      | (go_at_call 13;go_must (refine (mayd_calls c (q k) W5 (DcS.all (DcIn.stay HTY.out (HB5.out.mono HBR.out.size)))).mono ?_;rintro e w6 ⟨rfl,hb⟩;rw [HMV.out];have HB6:=Ak (show Below w.heap.size w w6 from Below.trans HBW5.out (hb.mono HBW5.out.size));clear hb)))
     go_ret2
     exact BunPost.no (HBE.out.trans HE.out) (by simpa using hm') HB6.out
   ·obtain rfl:k=n:=by omega
    have hlt':decide ((k:Int)<k)=false:=by simp
    have hall:mayAll ds=0:=by rw [← HK.out,List.drop_of_length_le (by rw [← HM.out];exact Nat.le_refl _),mayAll]
    have HALL:=Ak hall
    have hbl:=dcsB_len hall
    have h10:=putN_len10 (n:=(ds.length:Int)) (by rw [← HM.out];omega)
    have HLEN:=Ak (show (putN ds.length ++ dcsB ds).length≤700000000 by rw [List.length_append];rw [← HM.out] at hbl h10 ⊢;omega)
    clear hall hbl h10
    go_upto_region 11 with (go_at_call 41;go_must (refine (putDecls_calls ds (fun i d hd=>(mayD_ok (all_each HALL.out i d hd)).1) L k e q w.heap.size (.slice none 0 0) [] wr HM.out (by omega) (DcsIn.stay HIN.out HBR.out) (ownB_nil _ _) HBR.out.size (by have:=HLEN.out;simp only [List.length_nil];omega)).mono ?_;rintro e w7 ⟨v7,rfl,ho,hg⟩;have HB7:=Ak (show Below w.heap.size w w7 from Below.trans HBR.out (grew_still hg (ownB_nil _ _) HBR.out.size));have HO7:=Ak ho;obtain ⟨A7,m7,c7,rfl,hm7,-,-⟩:=OwnB.reads ho;have HM7:=Ak hm7;have hz7:m7≤700000000:=(by rw [hm7];exact HLEN.out);clear ho hg hm7))
    by_cases hL:8192<m7
    ·have HE:=Ak (bun_long HS.out HALL.out (by have:=HM7.out;rw [List.nil_append] at this;rw [← this];exact hL))
     have hL':(8192:Int)<m7:=by omega
     go_wp2
     go_ret2
     exact BunPost.no HE.out (by decide) HB7.out
    ·have HE:=Ak (bun_ok HS.out HALL.out (by have:=HM7.out;rw [List.nil_append] at this;rw [← this];exact hL))
     have hL':¬ (8192:Int)<m7:=by omega
     go_wp2
     go_ret2
     exact BunPost.ok HE.out (List.nil_append _) HO7.out HB7.out
set_option maxRecDepth 100000 in
set_option maxHeartbeats 8000000 in
theorem refBundle_calls (ds:List Dc) (L:Option Addr) (n e:Nat) (q:Nat→DPl) (w:World) (hn:n=ds.length) (hin:DcsIn w w.heap.size L q ds) (hn9:n≤9223372036854775807) :
  Calls Try.prog 20 #[.slice L n e] w (BunPost ds w):=by
 have HIN:=Ak hin
 have HM:=Ak hn
 clear hin hn
 go_enter Try.func20,Try.ntmps20
 by_cases h16:16<n
 ·have HE:=Ak (bun_many (by rw [← HM.out];exact h16))
  have h16':(16:Int)<n:=by omega
  go_wp2
  go_ret2
  exact BunPost.no HE.out (by decide) (Below.refl _ _)
 ·have HS:=Ak (show ¬ 16<ds.length by rw [← HM.out];exact h16)
  have h16':¬ (16:Int)<n:=by omega
  have HP10:=Ak (putN_len10 (n:=(n:Int)) (by omega))
  go_wp2_with (go_at_call 32;go_must (refine (refPut_grew w.heap.size (.slice none 0 0) [] (n:Int) w (ownB_nil _ _) (Nat.le_refl _) (by omega) (by omega) (by simp only [List.length_nil];omega)).mono ?_;rintro e w1 ⟨v1,rfl,ho,hg⟩;have HB1:=Ak (show Below w.heap.size w w1 from grew_still hg (ownB_nil _ _) (Nat.le_refl _));have HO1:=Ak ho;clear ho hg))
  go_loopw [4,18] (fun u i wr=>∃ (k:Nat) (ys:List Int),i=.int .i64 k∧k≤n∧Aside0 (mayAll (ds.drop k)=mayAll ds)∧Aside0 (ys ++ dcsB (ds.drop k)=putN (n:Int) ++ dcsB ds)∧ys.length≤10+40000000 * k∧Aside0 (OwnB wr w.heap.size u ys)∧Aside0 (Below w.heap.size w wr)) (fun _ i _=>n - (intOf i).toNat)
  case atStart=>exact ⟨0,[] ++ putN (n:Int),rfl,Nat.zero_le _,⟨rfl⟩,⟨by rw [List.drop_zero,List.nil_append]⟩,by have:=HP10.out;rw [List.nil_append];omega,HO1,HB1⟩
  case round =>
   clear HO1 HB1
   obtain ⟨k,ys,rfl,hk,HK,HEQ,hyl,HOR,HBR⟩:=hrel
   by_cases hlt:k<n
   ·have hlt2:k<ds.length:=by rw [← HM.out];exact hlt
    obtain ⟨c,hc⟩:∃ c,ds[k]?=some c:=⟨_,List.getElem?_eq_getElem hlt2⟩
    obtain ⟨⟨bk,o,hA,hSb,hcells⟩,hty⟩:=(DcsIn.stay HIN.out HBR.out) k c hc
    have HAA:=Ak hA
    have HRG:=Ak (show wr.rangeAt bk (o+k * 21) (dcC (q k) c) from hcells)
    have HTY:=Ak hty
    have HDR:=Ak (drop_dc hc)
    rw [hA]
    clear hA hcells hc hlt2 hty
    by_cases hmd:mayD c=0
    ·have HMV:=Ak hmd
     have HEB:=Ak (encB_ok hmd)
     have hel:=(mayD_ok hmd).2
     have HEL:=Ak hel
     have hbr:w.heap.size≤wr.heap.size:=HBR.out.size
     clear hmd hel
     go_upto_region 7 with (first | (refine wpList_load_mid rfl 30 _ rfl bk (o+k * 21) rfl [.int .i64 c.kind,.string c.nm,.int .i64 c.vars,.int .i64 c.ty.kind,.int .i64 c.ty.num,.string c.ty.name,.int .i64 c.ty.lv.kind,.int .i64 c.ty.lv.num,.slice (q k).pt.A c.ty.lv.kids.length (q k).pt.c,.slice (q k).pt.B c.ty.ls.length (q k).pt.d,.slice (q k).pt.K c.ty.kids.length (q k).pt.e,.int .i64 c.val.kind,.int .i64 c.val.num,.string c.val.name,.int .i64 c.val.lv.kind,.int .i64 c.val.lv.num,.slice (q k).pv.A c.val.lv.kids.length (q k).pv.c,.slice (q k).pv.B c.val.ls.length (q k).pv.d,.slice (q k).pv.K c.val.kids.length (q k).pv.e,.int .i64 c.params,.slice (q k).C c.cs.length (q k).e] _ HRG.out Try.underlying30 rfl (by kernel_rfl) ?_) | (refine wpList_store_row rfl 30 _ _ rfl wr.heap.size #[.int .i64 c.kind,.string c.nm,.int .i64 c.vars,.int .i64 c.ty.kind,.int .i64 c.ty.num,.string c.ty.name,.int .i64 c.ty.lv.kind,.int .i64 c.ty.lv.num,.slice (q k).pt.A c.ty.lv.kids.length (q k).pt.c,.slice (q k).pt.B c.ty.ls.length (q k).pt.d,.slice (q k).pt.K c.ty.kids.length (q k).pt.e,.int .i64 c.val.kind,.int .i64 c.val.num,.string c.val.name,.int .i64 c.val.lv.kind,.int .i64 c.val.lv.num,.slice (q k).pv.A c.val.lv.kids.length (q k).pv.c,.slice (q k).pv.B c.val.ls.length (q k).pv.d,.slice (q k).pv.K c.val.kids.length (q k).pv.e,.int .i64 c.params,.slice (q k).C c.cs.length (q k).e] rfl rfl 30 #[.int .i64 0,.string ⟨#[]⟩,.int .i64 0,.int .i64 0,.int .i64 0,.string ⟨#[]⟩,.int .i64 0,.int .i64 0,.slice none 0 0,.slice none 0 0,.slice none 0 0,.int .i64 0,.int .i64 0,.string ⟨#[]⟩,.int .i64 0,.int .i64 0,.slice none 0 0,.slice none 0 0,.slice none 0 0,.int .i64 0,.slice none 0 0] (blk_new _ _) (by kernel_rfl) rfl (all_one (l:=[.int .i64 c.kind,.string c.nm,.int .i64 c.vars,.int .i64 c.ty.kind,.int .i64 c.ty.num,.string c.ty.name,.int .i64 c.ty.lv.kind,.int .i64 c.ty.lv.num,.slice (q k).pt.A c.ty.lv.kids.length (q k).pt.c,.slice (q k).pt.B c.ty.ls.length (q k).pt.d,.slice (q k).pt.K c.ty.kids.length (q k).pt.e,.int .i64 c.val.kind,.int .i64 c.val.num,.string c.val.name,.int .i64 c.val.lv.kind,.int .i64 c.val.lv.num,.slice (q k).pv.A c.val.lv.kids.length (q k).pv.c,.slice (q k).pv.B c.val.ls.length (q k).pv.d,.slice (q k).pv.K c.val.kids.length (q k).pv.e,.int .i64 c.params,.slice (q k).C c.cs.length (q k).e]) rfl) ?_))
     obtain ⟨W5,hW5⟩:∃ W5,W5=(wr.alloc (.cells zdcA 30 (0,0))).setRow wr.heap.size (dcA (q k) c):=⟨_,rfl⟩
     have hs5:=dc_boxed wr (q k) c
     rw [← hW5] at hs5
     have HX5:=Ak hs5.1
     have HB5:=Ak hs5.2
     have HBW5:=Ak (show Below w.heap.size w W5 from Below.trans HBR.out (hs5.2.mono HBR.out.size))
     unfold zdcA dcA at hW5
     rw [← hW5]
     clear hW5 hs5
     go_wp2_with (first
      | (refine wpList_load_row rfl 30 _ rfl wr.heap.size rfl 30 _ (0,0) _ HX5.out Try.underlying30 rfl (by kernel_rfl) ?_)
      | (go_at_call 12;go_must (refine (refEncode_calls c (q k) W5 (DcS.all (DcIn.stay HTY.out (HB5.out.mono HBR.out.size)))).mono ?_;rintro e w6 ⟨v6,rfl,ho,hb⟩;rw [HMV.out];rw [HEB.out] at ho;have HB6:=Ak (show Below w.heap.size w w6 from Below.trans HBW5.out (hb.mono HBW5.out.size));have HO6:=Ak (show OwnB w6 w.heap.size u4 ys from pw_own_below (pw_own_below HOR.out HB5.out) hb);obtain ⟨A6,c6,rfl,hr6⟩:=own_reads ho;have HR6:=Ak hr6;have hl6:=HEL.out;clear hb ho hr6))
      | (at_builtin;go_must (refine print_append_row (w0:=w6) w.heap.size rfl (.tmp 30) (.tmp 31) 31 5 .u8 1 rfl Try.underlying31 infoU8 (by decide) u4 ys (dcB c) A6 _ c6 rfl rfl HO6.out HR6.out (Below.refl _ _) HB6.out.size (by have:=HEL.out;omega) ?_;intro v8 w8 ho8 _ hg hat;have HG8:=Ak (Grew.of_append hg hat);have HO8:=Ak ho8;have HB8:=Ak (show Below w.heap.size w w8 from Below.trans HB6.out (grew_still HG8.out HO6.out HB6.out.size));clear ho8 hg hat)))
     go_roundw
     case rel=>exact ⟨k+1,ys ++ dcB c,by go_num,by omega,⟨by rw [← HK.out,HDR.out,all_go HMV.out]⟩,⟨by rw [← HEQ.out,HDR.out,dcsB_cons,List.append_assoc]⟩,by rw [List.length_append];omega,HO8,HB8⟩
     case measure=>(simp [intOf];try omega)
    ·have HE:=Ak (show mayAll ds=mayD c by rw [← HK.out,HDR.out,all_no hmd])
     obtain ⟨e1,he1⟩:∃ e1,mayD c=e1:=⟨_,rfl⟩
     rw [he1] at hmd HE
     have HMV:=Ak he1
     have HBE:=Ak (bun_may HS.out (by rw [HE.out];exact hmd))
     have hm':(e1 != 0)=true:=by simpa using hmd
     clear hmd he1
     go_upto_region 7 with (first | (refine wpList_load_mid rfl 30 _ rfl bk (o+k * 21) rfl [.int .i64 c.kind,.string c.nm,.int .i64 c.vars,.int .i64 c.ty.kind,.int .i64 c.ty.num,.string c.ty.name,.int .i64 c.ty.lv.kind,.int .i64 c.ty.lv.num,.slice (q k).pt.A c.ty.lv.kids.length (q k).pt.c,.slice (q k).pt.B c.ty.ls.length (q k).pt.d,.slice (q k).pt.K c.ty.kids.length (q k).pt.e,.int .i64 c.val.kind,.int .i64 c.val.num,.string c.val.name,.int .i64 c.val.lv.kind,.int .i64 c.val.lv.num,.slice (q k).pv.A c.val.lv.kids.length (q k).pv.c,.slice (q k).pv.B c.val.ls.length (q k).pv.d,.slice (q k).pv.K c.val.kids.length (q k).pv.e,.int .i64 c.params,.slice (q k).C c.cs.length (q k).e] _ HRG.out Try.underlying30 rfl (by kernel_rfl) ?_) | (refine wpList_store_row rfl 30 _ _ rfl wr.heap.size #[.int .i64 c.kind,.string c.nm,.int .i64 c.vars,.int .i64 c.ty.kind,.int .i64 c.ty.num,.string c.ty.name,.int .i64 c.ty.lv.kind,.int .i64 c.ty.lv.num,.slice (q k).pt.A c.ty.lv.kids.length (q k).pt.c,.slice (q k).pt.B c.ty.ls.length (q k).pt.d,.slice (q k).pt.K c.ty.kids.length (q k).pt.e,.int .i64 c.val.kind,.int .i64 c.val.num,.string c.val.name,.int .i64 c.val.lv.kind,.int .i64 c.val.lv.num,.slice (q k).pv.A c.val.lv.kids.length (q k).pv.c,.slice (q k).pv.B c.val.ls.length (q k).pv.d,.slice (q k).pv.K c.val.kids.length (q k).pv.e,.int .i64 c.params,.slice (q k).C c.cs.length (q k).e] rfl rfl 30 #[.int .i64 0,.string ⟨#[]⟩,.int .i64 0,.int .i64 0,.int .i64 0,.string ⟨#[]⟩,.int .i64 0,.int .i64 0,.slice none 0 0,.slice none 0 0,.slice none 0 0,.int .i64 0,.int .i64 0,.string ⟨#[]⟩,.int .i64 0,.int .i64 0,.slice none 0 0,.slice none 0 0,.slice none 0 0,.int .i64 0,.slice none 0 0] (blk_new _ _) (by kernel_rfl) rfl (all_one (l:=[.int .i64 c.kind,.string c.nm,.int .i64 c.vars,.int .i64 c.ty.kind,.int .i64 c.ty.num,.string c.ty.name,.int .i64 c.ty.lv.kind,.int .i64 c.ty.lv.num,.slice (q k).pt.A c.ty.lv.kids.length (q k).pt.c,.slice (q k).pt.B c.ty.ls.length (q k).pt.d,.slice (q k).pt.K c.ty.kids.length (q k).pt.e,.int .i64 c.val.kind,.int .i64 c.val.num,.string c.val.name,.int .i64 c.val.lv.kind,.int .i64 c.val.lv.num,.slice (q k).pv.A c.val.lv.kids.length (q k).pv.c,.slice (q k).pv.B c.val.ls.length (q k).pv.d,.slice (q k).pv.K c.val.kids.length (q k).pv.e,.int .i64 c.params,.slice (q k).C c.cs.length (q k).e]) rfl) ?_))
     obtain ⟨W5,hW5⟩:∃ W5,W5=(wr.alloc (.cells zdcA 30 (0,0))).setRow wr.heap.size (dcA (q k) c):=⟨_,rfl⟩
     have hs5:=dc_boxed wr (q k) c
     rw [← hW5] at hs5
     have HX5:=Ak hs5.1
     have HB5:=Ak hs5.2
     have HBW5:=Ak (show Below w.heap.size w W5 from Below.trans HBR.out (hs5.2.mono HBR.out.size))
     unfold zdcA dcA at hW5
     rw [← hW5]
     clear hW5 hs5
     go_wp2_with (first
      | (refine wpList_load_row rfl 30 _ rfl wr.heap.size rfl 30 _ (0,0) _ HX5.out Try.underlying30 rfl (by kernel_rfl) ?_)
      | (go_at_call 12;go_must (refine (refEncode_calls c (q k) W5 (DcS.all (DcIn.stay HTY.out (HB5.out.mono HBR.out.size)))).mono ?_;rintro e w6 ⟨v6,rfl,ho,hb⟩;rw [HMV.out];have HB6:=Ak (show Below w.heap.size w w6 from Below.trans HBW5.out (hb.mono HBW5.out.size));clear hb ho)))
     go_ret2
     exact BunPost.no (HBE.out.trans HE.out) (by simpa using hm') HB6.out
   ·obtain rfl:k=n:=by omega
    have hlt':decide ((k:Int)<k)=false:=by simp
    have hall:mayAll ds=0:=by rw [← HK.out,List.drop_of_length_le (by rw [← HM.out];exact Nat.le_refl _),mayAll]
    have HALL:=Ak hall
    have HY:=Ak (show ys=putN ds.length ++ dcsB ds by have h:=HEQ.out;rw [List.drop_of_length_le (by rw [← HM.out];exact Nat.le_refl _)] at h;rw [← HM.out,← h];simp [dcsB])
    obtain ⟨A7,m7,c7,rfl,hm7,-,-⟩:=OwnB.reads HOR.out
    have HM7:=Ak hm7
    have hz7:m7≤700000000:=by rw [hm7];omega
    clear hall hm7
    by_cases hL:8192<m7
    ·have HE:=Ak (bun_long HS.out HALL.out (by rw [← HY.out,← HM7.out];exact hL))
     have hL':(8192:Int)<m7:=by omega
     go_wp2
     go_ret2
     exact BunPost.no HE.out (by decide) HBR.out
    ·have HE:=Ak (bun_ok HS.out HALL.out (by rw [← HY.out,← HM7.out];exact hL))
     have hL':¬ (8192:Int)<m7:=by omega
     go_wp2
     go_ret2
     exact BunPost.ok HE.out HY.out HOR.out HBR.out
end Go.Proofs.Ytcgkeolgflphiaa

namespace Go.Proofs.Ytcgkeolgflphiaa
open Go.RowKit Go.Proofs.YtcgkeolgflphiaaW.PrintWords Go.RegionInvYtcgkeolgflphiaa

def unR (xs:List Int):Except Int (List Dc):=if 8192<xs.length then .error 2 else match listR 16 dcR xs with
 | .error e=>.error e
 | .ok (l,r)=>if r≠[] then .error 4 else if mayAll l≠0 then .error (mayAll l) else .ok l
theorem un_put {xs:List Int} {l:List Dc} (hB:Bytes xs) (h:unR xs=.ok l):bunE l=0∧bunB l=xs:=by
 unfold unR at h
 split at h
 ·cases h
 ·rename_i h8
  split at h
  ·cases h
  ·rename_i l' r hl
   split at h
   ·cases h
   ·rename_i hr
    split at h
    ·cases h
    ·rename_i hm
     simp only [Except.ok.injEq] at h
     subst h
     have e:=list_put (g:=dcB) (gs:=dcsB) rfl dcsB_cons dc_put hB hl
     have hr':r=[]:=by simpa using hr
     rw [hr',List.append_nil] at e
     have hb:=bun_ok (ds:=l') (by have:=e.2;omega) (by simpa using hm) (by rw [← e.1];exact h8)
     exact ⟨hb,by rw [bunB_ok hb];exact e.1.symm⟩
theorem mayAll_mem {l:List Dc} (h:mayAll l=0):∀ d∈l,mayD d=0:=by
 intro d hd
 obtain ⟨i,hi⟩:=List.getElem?_of_mem hd
 exact all_each h i d hi
theorem mayAll_can:∀ {l:List Dc},mayAll l=0→mayAll (l.map dcan)=0
 | [],_=>rfl
 | x :: r,h=>by
  by_cases hx:mayD x=0
  ·rw [all_go hx] at h
   rw [List.map_cons,all_go (mayD_can hx)]
   exact mayAll_can h
  ·rw [all_no hx] at h;exact absurd h hx
theorem bunE_0 {l:List Dc} (h:bunE l=0):l.length≤16∧mayAll l=0∧(putN l.length ++ dcsB l).length≤8192:=by
 by_cases h1:16<l.length
 ·rw [bun_many h1] at h;cases h
 by_cases h2:mayAll l=0
 ·by_cases h3:8192<(putN l.length ++ dcsB l).length
  ·rw [bun_long h1 h2 h3] at h;cases h
  ·exact ⟨by omega,h2,by omega⟩
 ·rw [bun_may h1 h2] at h;exact absurd h h2
theorem un_get {l:List Dc} (h:bunE l=0):unR (bunB l)=.ok (l.map dcan):=by
 obtain ⟨h1,h2,h3⟩:=bunE_0 h
 have hm:=mayAll_mem h2
 have e:=list_get (b:=dcB) (bs:=dcsB) (c:=dcan) (most:=16) (f:=dcR) (l:=l) rfl dcsB_cons (fun x hx r=>dc_get (hm x hx) r) (by omega) (by omega) (r:=[])
 rw [List.append_nil] at e
 unfold unR
 rw [bunB_ok h,if_neg (by omega),e]
 simp only [ne_eq,not_true_eq_false,if_false,mayAll_can h2]
end Go.Proofs.Ytcgkeolgflphiaa

namespace Go.Proofs.Ytcgkeolgflphiaa
open Go.RowKit Go.Proofs.YtcgkeolgflphiaaW.PrintWords Go.RegionInvYtcgkeolgflphiaa

theorem kind_err {m e:Int} {xs:List Int} (h:kindR m xs=.error e):e≠0:=by
 cases xs with
 | nil=>simp only [kindR,Except.error.injEq] at h;omega
 | cons x r =>
  simp only [kindR] at h
  split at h
  ·simp only [Except.error.injEq] at h;omega
  ·cases h
theorem num_err {e:Int} {xs:List Int} (h:numR xs=.error e):e≠0:=by
 unfold numR at h
 split at h
 ·rename_i h1;simp only [Except.error.injEq] at h;rw [← h];exact h1
 ·split at h
  ·simp only [Except.error.injEq] at h;omega
  ·cases h
theorem name_err {e:Int} {xs:List Int} (h:nameR xs=.error e):e≠0:=by
 unfold nameR at h
 split at h
 ·rename_i h1
  simp only [Except.error.injEq] at h
  split at h <;> omega
 ·split at h
  ·cases h
  ·simp only [Except.error.injEq] at h;omega
theorem kids_err {α:Type} {g:List Int→Int→Except Int (α × List Int × Int)} (hg:∀ {xs:List Int} {m e:Int},g xs m=.error e→e≠0):∀ (n:Nat) {xs:List Int} {m e:Int},kidsR g n xs m=.error e→e≠0
 | 0,xs,m,e,h=>by simp only [kidsR] at h;cases h
 | n+1,xs,m,e,h=>by
  unfold kidsR at h
  split at h
  ·rename_i e1 h1;simp only [Except.error.injEq] at h;rw [← h];exact hg h1
  ·split at h
   ·rename_i e1 h1;simp only [Except.error.injEq] at h;rw [← h];exact kids_err hg n h1
   ·cases h
theorem many_err {α:Type} {f:List Int→Except Int (α × List Int)} (hf:∀ {xs:List Int} {e:Int},f xs=.error e→e≠0):∀ (n:Nat) {xs:List Int} {e:Int},manyR f n xs=.error e→e≠0
 | 0,xs,e,h=>by simp only [manyR] at h;cases h
 | n+1,xs,e,h=>by
  unfold manyR at h
  split at h
  ·rename_i e1 h1;simp only [Except.error.injEq] at h;rw [← h];exact hf h1
  ·split at h
   ·rename_i e1 h1;simp only [Except.error.injEq] at h;rw [← h];exact many_err hf n h1
   ·cases h
theorem list_err {α:Type} {most:Int} {f:List Int→Except Int (α × List Int)} (hf:∀ {xs:List Int} {e:Int},f xs=.error e→e≠0) {xs:List Int} {e:Int} (h:listR most f xs=.error e):e≠0:=by
 unfold listR at h
 split at h
 ·rename_i h1;simp only [Except.error.injEq] at h;rw [← h];exact h1
 ·split at h
  ·simp only [Except.error.injEq] at h;omega
  ·exact many_err hf _ h
theorem lv_err:∀ (f:Nat) {xs:List Int} {m e:Int},lvR f xs m=.error e→e≠0
 | 0,xs,m,e,h=>by
  unfold lvR at h
  split at h
  ·rename_i h1;simp only [Except.error.injEq] at h;rw [← h];exact kind_err h1
  ·simp only [Except.error.injEq] at h;omega
 | f+1,xs,m,e,h=>by
  unfold lvR at h
  split at h
  ·rename_i h1;simp only [Except.error.injEq] at h;rw [← h];exact kind_err h1
  ·split at h
   ·simp only [Except.error.injEq] at h;omega
   split at h
   ·rename_i e1 h1
    simp only [Except.error.injEq] at h
    rw [← h]
    split at h1
    ·cases h1
    ·exact num_err h1
   ·split at h
    ·rename_i e1 h1;simp only [Except.error.injEq] at h;rw [← h];exact kids_err (lv_err f) _ h1
    ·cases h
theorem lev1_err {xs:List Int} {e:Int} (h:lev1 xs=.error e):e≠0:=by
 unfold lev1 at h
 split at h
 ·rename_i h1;simp only [Except.error.injEq] at h;rw [← h];exact lv_err 32 h1
 ·cases h
theorem tm_err:∀ (f:Nat) {xs:List Int} {m e:Int},tmR f xs m=.error e→e≠0
 | 0,xs,m,e,h=>by
  unfold tmR at h
  split at h
  ·rename_i h1;simp only [Except.error.injEq] at h;rw [← h];exact kind_err h1
  ·simp only [Except.error.injEq] at h;omega
 | f+1,xs,m,e,h=>by
  unfold tmR at h
  split at h
  ·rename_i h1;simp only [Except.error.injEq] at h;rw [← h];exact kind_err h1
  ·split at h
   ·simp only [Except.error.injEq] at h;omega
   split at h
   ·split at h
    ·rename_i h1;simp only [Except.error.injEq] at h;rw [← h];exact num_err h1
    ·cases h
   split at h
   ·split at h
    ·rename_i h1;simp only [Except.error.injEq] at h;rw [← h];exact lev1_err h1
    ·cases h
   split at h
   ·split at h
    ·rename_i h1;simp only [Except.error.injEq] at h;rw [← h];exact name_err h1
    ·split at h
     ·rename_i h1;simp only [Except.error.injEq] at h;rw [← h];exact list_err lev1_err h1
     ·cases h
   ·split at h
    ·rename_i h1;simp only [Except.error.injEq] at h;rw [← h];exact kids_err (tm_err f) _ h1
    ·cases h
theorem whole_err {xs:List Int} {e:Int} (h:wholeR xs=.error e):e≠0:=by
 unfold wholeR at h
 split at h
 ·rename_i h1;simp only [Except.error.injEq] at h;rw [← h];exact tm_err 64 h1
 ·cases h
theorem ct_err {xs:List Int} {e:Int} (h:ctR xs=.error e):e≠0:=by
 unfold ctR at h
 split at h
 ·rename_i h1;simp only [Except.error.injEq] at h;rw [← h];exact name_err h1
 ·split at h
  ·rename_i h1;simp only [Except.error.injEq] at h;rw [← h];exact whole_err h1
  ·cases h
theorem dcB_len3 (d:Dc):3≤(dcB d).length:=by
 unfold dcB putB
 have:=putN_pos ((bytesOf d.nm).length:Int)
 have:=putN_pos d.vars
 simp only [List.length_append,List.length_cons,List.length_nil]
 omega
end Go.Proofs.Ytcgkeolgflphiaa

namespace Go.Proofs.Ytcgkeolgflphiaa
open Go.RowKit Go.Proofs.YtcgkeolgflphiaaW.PrintWords Go.RegionInvYtcgkeolgflphiaa

abbrev rdB (A:Option Addr) (n c:Nat) (N m e:Int):Obj:=.cells #[.slice A n c,.int .i64 N,.int .i64 m,.int .i64 e] 99 (0,0)
structure Bs (w:World) (g:Nat) (A:Option Addr) (n c:Nat) (xs:List Int):Prop where
 cap:n≤c
 reads:ReadsInt w .u8 A n xs
 old:∀ i,i<n→∃ ad,A=some ad∧ad.block<g
 bytes:Bytes xs
 len:n≤140737488355000
theorem Bs.chg {w w':World} {g:Nat} {A:Option Addr} {n c:Nat} {xs:List Int} {S:Nat→Prop} (h:Bs w g A n c xs) (hg:g≤w.heap.size) (hS:∀ k,S k→g≤k) (hc:Chg S w w'):Bs w' g A n c xs:=
 ⟨h.cap,reads_old h.reads h.old (hc.below hS hg),h.old,h.bytes,h.len⟩
theorem Bs.mono {w:World} {g g':Nat} {A:Option Addr} {n c:Nat} {xs:List Int} (h:Bs w g A n c xs) (hg:g≤g'):Bs w g' A n c xs:=
 ⟨h.cap,h.reads,fun i hi=>by obtain ⟨ad,e,hlt⟩:=h.old i hi;exact ⟨ad,e,by omega⟩,h.bytes,h.len⟩
def RdOk (w:World) (g:Nat) (xs:List Int) (N m:Int):Prop:=∃ A n c,w.heap[g]?=some (rdB A n c N m 0)∧Bs w g A n c xs
def RdBad (w:World) (g:Nat) (e:Int):Prop:=∃ A n c N m,w.heap[g]?=some (rdB A n c N m e)
theorem RdOk.bytes {w:World} {g:Nat} {xs:List Int} {N m:Int} (h:RdOk w g xs N m):Bytes xs:=by obtain ⟨_,_,_,_,h⟩:=h;exact h.bytes
theorem RdOk.lt {w:World} {g:Nat} {xs:List Int} {N m:Int} (h:RdOk w g xs N m):g<w.heap.size:=by obtain ⟨_,_,_,h,_⟩:=h;exact blk_lt h
theorem RdBad.lt {w:World} {g:Nat} {e:Int} (h:RdBad w g e):g<w.heap.size:=by obtain ⟨_,_,_,_,_,h⟩:=h;exact blk_lt h
theorem RdOk.chg {w w':World} {g:Nat} {xs:List Int} {N m:Int} {S:Nat→Prop} (h:RdOk w g xs N m) (hS:∀ k,S k→g<k) (hc:Chg S w w'):RdOk w' g xs N m:=by
 obtain ⟨A,n,c,hb,hs⟩:=h
 exact ⟨A,n,c,(hc.block g (blk_lt hb) (fun hk=>absurd (hS g hk) (Nat.lt_irrefl g))).trans hb,hs.chg (Nat.le_of_lt (blk_lt hb)) (fun k hk=>Nat.le_of_lt (hS k hk)) hc⟩
theorem RdBad.chg {w w':World} {g:Nat} {e:Int} {S:Nat→Prop} (h:RdBad w g e) (hS:∀ k,S k→g<k) (hc:Chg S w w'):RdBad w' g e:=by
 obtain ⟨A,n,c,N,m,hb⟩:=h
 exact ⟨A,n,c,N,m,(hc.block g (blk_lt hb) (fun hk=>absurd (hS g hk) (Nat.lt_irrefl g))).trans hb⟩
theorem RdOk.below {w w':World} {g:Nat} {xs:List Int} {N m:Int} (h:RdOk w g xs N m) (hb:Below w.heap.size w w'):RdOk w' g xs N m:=h.chg (S:=fun _=>False) (fun _ h=>h.elim) (Chg.of_below hb)
theorem RdBad.below {w w':World} {g:Nat} {e:Int} (h:RdBad w g e) (hb:Below w.heap.size w w'):RdBad w' g e:=h.chg (S:=fun _=>False) (fun _ h=>h.elim) (Chg.of_below hb)

theorem rd4_0 {w:World} {g:Nat} {a b c d x:Value} {t:TypeId} (h:w.heap[g]?=some (.cells #[a,b,c,d] t (0,0))):(w.setCell ⟨g,0,none⟩ x).heap[g]?=some (.cells #[x,b,c,d] t (0,0)):=blk_put h 0 x rfl
theorem rd4_1 {w:World} {g:Nat} {a b c d x:Value} {t:TypeId} (h:w.heap[g]?=some (.cells #[a,b,c,d] t (0,0))):(w.setCell ⟨g,1,none⟩ x).heap[g]?=some (.cells #[a,x,c,d] t (0,0)):=blk_put h 1 x rfl
theorem rd4_2 {w:World} {g:Nat} {a b c d x:Value} {t:TypeId} (h:w.heap[g]?=some (.cells #[a,b,c,d] t (0,0))):(w.setCell ⟨g,2,none⟩ x).heap[g]?=some (.cells #[a,b,x,d] t (0,0)):=blk_put h 2 x rfl
theorem rd4_3 {w:World} {g:Nat} {a b c d x:Value} {t:TypeId} (h:w.heap[g]?=some (.cells #[a,b,c,d] t (0,0))):(w.setCell ⟨g,3,none⟩ x).heap[g]?=some (.cells #[a,b,c,x] t (0,0)):=blk_put h 3 x rfl
theorem row4 {w:World} {g:Nat} {a b c d:Value} {t:TypeId} (h:w.heap[g]?=some (.cells #[a,b,c,d] t (0,0))) :
  w.cell? ⟨g,0,none⟩=some a∧w.cell? ⟨g,1,none⟩=some b∧w.cell? ⟨g,2,none⟩=some c∧w.cell? ⟨g,3,none⟩=some d∧w.frozen? ⟨g,0,none⟩=false∧w.frozen? ⟨g,1,none⟩=false∧w.frozen? ⟨g,2,none⟩=false∧w.frozen? ⟨g,3,none⟩=false:=by
 refine ⟨?_,?_,?_,?_,blk_frozen h 0,blk_frozen h 1,blk_frozen h 2,blk_frozen h 3⟩ <;> (rw [cell_of_row _ _ _ _ _ _ h];rfl)

set_option maxRecDepth 20000 in
theorem cut_old {A:Option Addr} {n c:Nat} (m:Nat) (hm:m≤n) :
  ∃ A',(∀ W,(Instr.slice 31 (.slice A n c) (some (.int .i64 (m:Int))) none none).run Try.prog W=.ok (.slice A' (n - m) (c - m)) W)∧∀ (w:World) (g:Nat) (xs:List Int),Bs w g A n c xs→Bs w g A' (n - m) (c - m) (xs.drop m):=by
 obtain ⟨i,hi,hz⟩:=Option.map_eq_some_iff.1 infoU8
 have hs:i.size=1:=by injection hz with _ hz;injection hz
 refine ⟨if c=m then A else A.map (·.add m),fun W=>?_,fun w g xs h=>⟨by have:=h.cap;omega,h.reads.drop_ m hm h.cap,fun j hj=>?_,h.bytes.drop m,by have:=h.len;omega⟩⟩
 ·have hel:Try.prog.elem 31=5:=by kernel_rfl
  rw [run_slice_l W 31 A n c (by rw [hel];exact Try.underlying31) .i64 (m:Int) (Int.natCast_nonneg _) (by omega),hel]
  simp [sizeOf,typeInfo,hi,hs,sliced,Result.andThen]
 ·obtain ⟨ad,e,hlt⟩:=h.old 0 (by omega)
  split
  ·exact ⟨ad,e,hlt⟩
  ·exact ⟨ad.add m,by rw [e];rfl,by unfold Addr.add;split <;> exact hlt⟩

theorem fail_no (g:Nat) (A:Option Addr) (n c:Nat) (N m k:Int) (w:World) (hg:w.heap[g]?=some (rdB A n c N m 0)) :
  Calls Try.prog 104 #[.pointer (some ⟨g,0,none⟩),.bool false,.int .i64 k] w fun e w'=>e=.returned (.bool false)∧w'=w:=by
 obtain ⟨c0,c1,c2,c3,z0,z1,z2,z3⟩:=row4 hg
 clear hg
 go_enter Try.func104,Try.ntmps104
 go_wp2
 go_ret
 exact ⟨rfl,rfl⟩
theorem fail_yes (g:Nat) (A:Option Addr) (n c:Nat) (N m k:Int) (w:World) (hg:w.heap[g]?=some (rdB A n c N m 0)) (hk:k≠0) :
  Calls Try.prog 104 #[.pointer (some ⟨g,0,none⟩),.bool true,.int .i64 k] w fun e w'=>e=.returned (.bool true)∧w'=w.setCell ⟨g,3,none⟩ (.int .i64 k):=by
 obtain ⟨c0,c1,c2,c3,z0,z1,z2,z3⟩:=row4 hg
 have hk':(k != 0)=true:=by simp [hk]
 clear hg hk
 go_enter Try.func104,Try.ntmps104
 go_wp2
 go_ret
 exact ⟨rfl,rfl⟩
theorem fail_bad (g:Nat) (A:Option Addr) (n c:Nat) (N m e k:Int) (b:Bool) (w:World) (hg:w.heap[g]?=some (rdB A n c N m e)) (he:e≠0) :
  Calls Try.prog 104 #[.pointer (some ⟨g,0,none⟩),.bool b,.int .i64 k] w fun r w'=>r=.returned (.bool true)∧w'=w:=by
 obtain ⟨c0,c1,c2,c3,z0,z1,z2,z3⟩:=row4 hg
 have he':(e != 0)=true:=by simp [he]
 have he2:(e == 0)=false:=by simp [he]
 clear hg he
 cases b
 ·go_enter Try.func104,Try.ntmps104
  go_wp2
  go_ret
  exact ⟨rfl,rfl⟩
 ·go_enter Try.func104,Try.ntmps104
  go_wp2
  go_ret
  exact ⟨rfl,rfl⟩
def failW (w:World) (g:Nat) (b:Bool) (k:Int):World:=if b then w.setCell ⟨g,3,none⟩ (.int .i64 k) else w
theorem failW_no (w:World) (g:Nat) (k:Int):failW w g false k=w:=rfl
theorem failW_yes (w:World) (g:Nat) (k:Int):failW w g true k=w.setCell ⟨g,3,none⟩ (.int .i64 k):=rfl
theorem fail_at (g:Nat) (A:Option Addr) (n c:Nat) (N m k:Int) (b:Bool) (w:World) (hg:w.heap[g]?=some (rdB A n c N m 0)) (hk:k≠0) :
  Calls Try.prog 104 #[.pointer (some ⟨g,0,none⟩),.bool b,.int .i64 k] w fun e w'=>e=.returned (.bool b)∧w'=failW w g b k:=by
 cases b
 ·exact fail_no g A n c N m k w hg
 ·exact fail_yes g A n c N m k w hg hk
theorem skip_ok (g:Nat) (A A':Option Addr) (n c n' c':Nat) (N m:Int) (k:Nat) (w:World) (hg:w.heap[g]?=some (rdB A n c N m 0)) (hcut:∀ W,(Instr.slice 31 (.slice A n c) (some (.int .i64 (k:Int))) none none).run Try.prog W=.ok (.slice A' n' c') W) :
  Calls Try.prog 106 #[.pointer (some ⟨g,0,none⟩),.int .i64 k,.int .i64 0] w fun r w'=>r=.returned (.bool true)∧w'=w.setCell ⟨g,0,none⟩ (.slice A' n' c'):=by
 obtain ⟨c0,c1,c2,c3,z0,z1,z2,z3⟩:=row4 hg
 have HG:=Ak hg
 clear hg
 go_enter Try.func106,Try.ntmps106
 go_wp2_with (go_at_call 104;go_must (refine (fail_no g A n c N m 0 _ HG.out).mono ?_;rintro r w' ⟨rfl,hw⟩;obtain rfl:w=w':=hw.symm))
 go_ret
 exact ⟨rfl,rfl⟩
theorem skip_no (g:Nat) (A:Option Addr) (n c:Nat) (N m k e:Int) (w:World) (hg:w.heap[g]?=some (rdB A n c N m 0)) (he:e≠0) :
  Calls Try.prog 106 #[.pointer (some ⟨g,0,none⟩),.int .i64 k,.int .i64 e] w fun r w'=>r=.returned (.bool false)∧w'=w.setCell ⟨g,3,none⟩ (.int .i64 e):=by
 have he':(e != 0)=true:=by simp [he]
 have HG:=Ak hg
 have HE:=Ak he
 clear hg he
 go_enter Try.func106,Try.ntmps106
 go_wp2_with (go_at_call 104;go_must (refine (fail_yes g A n c N m e _ HG.out HE.out).mono ?_;rintro r w' ⟨rfl,hw⟩;subst hw))
 go_ret
 exact ⟨rfl,rfl⟩
end Go.Proofs.Ytcgkeolgflphiaa

namespace Go.Proofs.Ytcgkeolgflphiaa
open Go.RowKit Go.Proofs.YtcgkeolgflphiaaW.PrintWords Go.RegionInvYtcgkeolgflphiaa

def KindPost (w:World) (g:Nat) (N m:Int) (R:Except Int (Int × List Int)) (e:Ending) (w':World):Prop:=
 Chg (fun k=>k=g) w w'∧match R with
  | .ok (k,r)=>e=.returned (.int .i64 k)∧RdOk w' g r N m
  | .error er=>e=.returned (.int .i64 0)∧RdBad w' g er
theorem kindPost_err {w:World} {g n c:Nat} {A:Option Addr} {N m er:Int} {R:Except Int (Int × List Int)} (hR:R=.error er) (hg:w.heap[g]?=some (rdB A n c N m 0)):KindPost w g N m R (.returned (.int .i64 0)) (w.setCell ⟨g,3,none⟩ (.int .i64 er)):=by
 subst hR;exact ⟨chg_set _ _ _ _,rfl,A,n,c,N,m,rd4_3 hg⟩
theorem kindPost_ok {w:World} {g n c n' c':Nat} {A A':Option Addr} {N m k:Int} {r:List Int} {R:Except Int (Int × List Int)} (hR:R=.ok (k,r)) (hg:w.heap[g]?=some (rdB A n c N m 0)) (hs:Bs w g A' n' c' r):KindPost w g N m R (.returned (.int .i64 k)) (w.setCell ⟨g,0,none⟩ (.slice A' n' c')):=by
 subst hR;exact ⟨chg_set _ _ _ _,rfl,A',n',c',rd4_0 hg,hs.chg (Nat.le_of_lt (blk_lt hg)) (fun k e=>Nat.le_of_eq e.symm) (chg_set _ _ _ _)⟩
theorem kind_bad (g:Nat) (er most:Int) (w:World) (h:RdBad w g er) (he:er≠0) :
  Calls Try.prog 86 #[.pointer (some ⟨g,0,none⟩),.int .i64 most] w fun e w'=>e=.returned (.int .i64 0)∧w'=w:=by
 obtain ⟨A,n,c,N,m,hg⟩:=h
 obtain ⟨c0,c1,c2,c3,z0,z1,z2,z3⟩:=row4 hg
 have HG:=Ak hg
 have HE:=Ak he
 clear hg he
 go_enter Try.func86,Try.ntmps86
 go_wp2_with (go_at_call 104;go_must (refine (fail_bad g A n c N m er 3 _ _ HG.out HE.out).mono ?_;rintro r w' ⟨rfl,hw⟩;subst hw))
 go_ret
 exact ⟨rfl,rfl⟩
set_option maxHeartbeats 2000000 in
theorem kind_calls (g:Nat) (xs:List Int) (N m most:Int) (w:World) (h:RdOk w g xs N m) (h1:1≤most) (h2:most≤255) :
  Calls Try.prog 86 #[.pointer (some ⟨g,0,none⟩),.int .i64 most] w (KindPost w g N m (kindR most xs)):=by
 obtain ⟨A,n,c,hg,hs⟩:=h
 obtain ⟨c0,c1,c2,c3,z0,z1,z2,z3⟩:=row4 hg
 have HG:=Ak hg
 have HS:=Ak hs
 have hn:=hs.reads.1
 cases xs with
 | nil =>
  obtain rfl:n=0:=hn.symm
  clear hg hs hn
  go_enter Try.func86,Try.ntmps86
  go_wp2_with (go_at_call 104;go_must (refine (fail_yes g A 0 c N m 3 _ HG.out (by decide)).mono ?_;rintro r w' ⟨rfl,hw⟩;subst hw))
  go_ret
  exact kindPost_err rfl HG.out
 | cons x r =>
  obtain rfl:n=r.length+1:=by simpa using hn.symm
  obtain ⟨ad,rfl,hc⟩:=hs.reads.at_ 0 (Int.le_refl 0) (by omega)
  have hb:=hs.bytes x (by simp)
  have hc':w.cell? ad=some (.int .u8 x):=by
   have h0:ad.add 0=ad:=by simp [Addr.add]
   rw [← h0]
   exact hc
  have hn0:((r.length:Int)+1 == 0)=false:=by
   simp only [beq_eq_false_iff_ne];omega
  obtain ⟨A',hcut,hcs⟩:=cut_old (A:=some ad) (n:=r.length+1) (c:=c) 1 (by omega)
  have HCS:=Ak hcs
  rw [show ((1:Nat):Int)=1 from rfl] at hcut
  have hlen:=hs.len
  clear hg hs hn hcs hc
  by_cases hx:x<1∨most<x
  ·have HK:=Ak (show kindR most (x :: r)=.error 4 by simp only [kindR];rw [if_pos hx])
   by_cases hx1:x<1
   ·have hx1':decide (x<1)=true:=decide_eq_true hx1
    clear hx
    go_enter Try.func86,Try.ntmps86
    go_wp2_with (go_at_call 104;refine (fail_at g _ _ _ _ _ _ _ _ HG.out (by decide)).mono ?_;rintro r w' ⟨rfl,hw⟩;simp only [failW_no,failW_yes] at hw;first | (obtain rfl:w=w':=hw.symm) | subst hw)
    go_ret
    exact kindPost_err HK.out HG.out
   ·have hx1':decide (x<1)=false:=decide_eq_false hx1
    have hx2:decide (x > most)=true:=decide_eq_true (by omega)
    clear hx
    go_enter Try.func86,Try.ntmps86
    go_wp2_with (go_at_call 104;refine (fail_at g _ _ _ _ _ _ _ _ HG.out (by decide)).mono ?_;rintro r w' ⟨rfl,hw⟩;simp only [failW_no,failW_yes] at hw;first | (obtain rfl:w=w':=hw.symm) | subst hw)
    go_ret
    exact kindPost_err HK.out HG.out
  ·have HK:=Ak (show kindR most (x :: r)=.ok (x,r) by simp only [kindR];rw [if_neg hx])
   have hx1:decide (x<1)=false:=decide_eq_false (by omega)
   have hx2:decide (x > most)=false:=decide_eq_false (by omega)
   clear hx
   go_enter Try.func86,Try.ntmps86
   go_wp2_with (go_at_call 104;refine (fail_at g _ _ _ _ _ _ _ _ HG.out (by decide)).mono ?_;rintro r w' ⟨rfl,hw⟩;simp only [failW_no,failW_yes] at hw;first | (obtain rfl:w=w':=hw.symm) | subst hw)
   go_ret
   exact kindPost_ok HK.out HG.out (HCS.out w g (x :: r) HS.out)
end Go.Proofs.Ytcgkeolgflphiaa

namespace Go.Proofs.Ytcgkeolgflphiaa
open Go.RowKit Go.Proofs.YtcgkeolgflphiaaW.PrintWords Go.RegionInvYtcgkeolgflphiaa

def NumPost (w:World) (g:Nat) (N m:Int) (R:Except Int (Int × List Int)) (e:Ending) (w':World):Prop:=
 Chg (fun k=>k=g) w w'∧match R with
  | .ok (k,r)=>e=.returned (.int .i64 k)∧RdOk w' g r N m
  | .error er=>e=.returned (.int .i64 0)∧RdBad w' g er
theorem number_bad (g:Nat) (er:Int) (w:World) (h:RdBad w g er) (he:er≠0) :
  Calls Try.prog 88 #[.pointer (some ⟨g,0,none⟩)] w fun e w'=>e=.returned (.int .i64 0)∧w'=w:=by
 obtain ⟨A,n,c,N,m,hg⟩:=h
 obtain ⟨c0,c1,c2,c3,z0,z1,z2,z3⟩:=row4 hg
 have he':(er != 0)=true:=by simp [he]
 clear hg he
 go_enter Try.func88,Try.ntmps88
 go_wp2
 go_ret
 exact ⟨rfl,rfl⟩
theorem numPost_err {w:World} {g n c:Nat} {A:Option Addr} {N m er:Int} {R:Except Int (Int × List Int)} (hR:R=.error er) (hg:w.heap[g]?=some (rdB A n c N m 0)):NumPost w g N m R (.returned (.int .i64 0)) (w.setCell ⟨g,3,none⟩ (.int .i64 er)):=by
 subst hR;exact ⟨chg_set _ _ _ _,rfl,A,n,c,N,m,rd4_3 hg⟩
theorem numPost_err2 {w:World} {g n c n' c':Nat} {A A':Option Addr} {N m er:Int} {R:Except Int (Int × List Int)} (hR:R=.error er) (hg:w.heap[g]?=some (rdB A n c N m 0)):NumPost w g N m R (.returned (.int .i64 0)) ((w.setCell ⟨g,0,none⟩ (.slice A' n' c')).setCell ⟨g,3,none⟩ (.int .i64 er)):=by
 subst hR;exact ⟨chg_trans (chg_set _ _ _ _) (chg_set _ _ _ _),rfl,A',n',c',N,m,rd4_3 (rd4_0 hg)⟩
theorem numPost_ok {w:World} {g n c n' c':Nat} {A A':Option Addr} {N m k:Int} {r:List Int} {R:Except Int (Int × List Int)} (hR:R=.ok (k,r)) (hg:w.heap[g]?=some (rdB A n c N m 0)) (hs:Bs w g A' n' c' r):NumPost w g N m R (.returned (.int .i64 k)) (w.setCell ⟨g,0,none⟩ (.slice A' n' c')):=by
 subst hR;exact ⟨chg_set _ _ _ _,rfl,A',n',c',rd4_0 hg,hs.chg (Nat.le_of_lt (blk_lt hg)) (fun k e=>Nat.le_of_eq e.symm) (chg_set _ _ _ _)⟩
set_option maxHeartbeats 2000000 in
theorem number_calls (g:Nat) (xs:List Int) (N m:Int) (w:World) (h:RdOk w g xs N m) :
  Calls Try.prog 88 #[.pointer (some ⟨g,0,none⟩)] w (NumPost w g N m (numR xs)):=by
 obtain ⟨A,n,c,hg,hs⟩:=h
 obtain ⟨c0,c1,c2,c3,z0,z1,z2,z3⟩:=row4 hg
 have HG:=Ak hg
 have HS:=Ak hs
 have hn:=hs.reads.1
 have hlen:=hs.len
 rcases takeN_cases hs.bytes with hT | hT | ⟨k,u,hT,hk,hu1,hu2⟩
 ·have HK:=Ak (show numR xs=.error 3 by unfold numR;rw [hT];rfl)
  have HT:=Ak hT
  clear hg hs hn hT
  go_enter Try.func88,Try.ntmps88
  go_wp2_with (first
   | (go_at_call 75;go_must (refine (take_calls A n c xs _ HS.out.reads HS.out.bytes hlen).mono ?_;rintro e w' ⟨rfl,hw⟩;obtain rfl:w=w':=hw.symm;rw [HT.out]))
   | (go_at_call 106;go_must (refine (skip_no g A n c N m 0 3 _ HG.out (by decide)).mono ?_;rintro e w' ⟨rfl,hw⟩;subst hw)))
  go_ret
  exact numPost_err HK.out HG.out
 ·have HK:=Ak (show numR xs=.error 4 by unfold numR;rw [hT];rfl)
  have HT:=Ak hT
  clear hg hs hn hT
  go_enter Try.func88,Try.ntmps88
  go_wp2_with (first
   | (go_at_call 75;go_must (refine (take_calls A n c xs _ HS.out.reads HS.out.bytes hlen).mono ?_;rintro e w' ⟨rfl,hw⟩;obtain rfl:w=w':=hw.symm;rw [HT.out]))
   | (go_at_call 106;go_must (refine (skip_no g A n c N m 0 4 _ HG.out (by decide)).mono ?_;rintro e w' ⟨rfl,hw⟩;subst hw)))
  go_ret
  exact numPost_err HK.out HG.out
 ·have hu3:u≤n:=by omega
  obtain ⟨A',hcut,hcs⟩:=cut_old (A:=A) (n:=n) (c:=c) u hu3
  have HCUT:=Ak hcut
  have HCS:=Ak (hcs w g xs hs)
  have HT:=Ak hT
  by_cases hbig:1048576<k
  ·have HK:=Ak (show numR xs=.error 1 by unfold numR;rw [hT];rw [if_neg (by simp),if_pos (by omega)])
   have hb':decide ((k:Int) > 1048576)=true:=decide_eq_true (by omega)
   clear hg hs hn hT hcut hcs
   go_enter Try.func88,Try.ntmps88
   go_wp2_with (first
    | (go_at_call 75;go_must (refine (take_calls A n c xs _ HS.out.reads HS.out.bytes hlen).mono ?_;rintro e w' ⟨rfl,hw⟩;obtain rfl:w=w':=hw.symm;rw [HT.out]))
    | (go_at_call 106;go_must (refine (skip_ok g A A' n c (n - u) (c - u) N m u _ HG.out HCUT.out).mono ?_;rintro e w' ⟨rfl,hw⟩;subst hw))
    | (go_at_call 104;go_must (refine (fail_yes g A' (n - u) (c - u) N m 1 _ (rd4_0 HG.out) (by decide)).mono ?_;rintro e w' ⟨rfl,hw⟩;subst hw)))
   go_ret
   exact numPost_err2 HK.out HG.out
  ·have HK:=Ak (show numR xs=.ok ((k:Int),xs.drop u) by unfold numR;rw [hT];rw [if_neg (by simp),if_neg (by simp;omega)];rfl)
   have hb':decide ((k:Int) > 1048576)=false:=decide_eq_false (by omega)
   have hk64:(k:Int)≤9223372036854775807:=by omega
   clear hg hs hn hT hcut hcs
   go_enter Try.func88,Try.ntmps88
   go_wp2_with (first
    | (go_at_call 75;go_must (refine (take_calls A n c xs _ HS.out.reads HS.out.bytes hlen).mono ?_;rintro e w' ⟨rfl,hw⟩;obtain rfl:w=w':=hw.symm;rw [HT.out]))
    | (go_at_call 106;go_must (refine (skip_ok g A A' n c (n - u) (c - u) N m u _ HG.out HCUT.out).mono ?_;rintro e w' ⟨rfl,hw⟩;subst hw))
    | (go_at_call 104;go_must (refine (fail_no g A' (n - u) (c - u) N m 1 _ (rd4_0 HG.out)).mono ?_;rintro e w' ⟨rfl,hw⟩;subst hw)))
   go_ret
   exact numPost_ok HK.out HG.out HCS.out
theorem strOf_name (ys:List Int):strOfNums ys=nameOf ys:=by
 unfold strOfNums nameOf;rfl
def NameSt (W:World) (g:Nat) (N m:Int) (s:ByteArray):Except Int (ByteArray × List Int)→Prop
 | .ok (k,r)=>s=k∧RdOk W g r N m
 | .error er=>RdBad W g er
theorem nameOf_size (ys:List Int):(nameOf ys).size=ys.length:=by
 show ((ys.map fun x=>UInt8.ofNat x.toNat).toArray).size=_
 simp
theorem takeB_short_ (xs:List Int) (q:Int):(takeB xs q).1.length≤xs.length:=by
 unfold takeB
 dsimp only
 split
 ·exact Nat.zero_le _
 ·split
  ·exact Nat.zero_le _
  ·split
   ·exact Nat.zero_le _
   ·simp only [List.length_take,List.length_drop];omega
def NamePost (w:World) (g:Nat) (N m:Int) (R:Except Int (ByteArray × List Int)) (e:Ending) (w':World):Prop:=
 ∃ s,e=.returned (.string s)∧s.size≤140737488355328∧Chg (fun k=>k=g) w w'∧NameSt w' g N m s R
theorem name_bad (g:Nat) (er:Int) (w:World) (h:RdBad w g er) (he:er≠0) :
  Calls Try.prog 87 #[.pointer (some ⟨g,0,none⟩)] w fun e w'=>e=.returned (.string ⟨#[]⟩)∧w'=w:=by
 obtain ⟨A,n,c,N,m,hg⟩:=h
 obtain ⟨c0,c1,c2,c3,z0,z1,z2,z3⟩:=row4 hg
 have he':(er != 0)=true:=by simp [he]
 clear hg he
 go_enter Try.func87,Try.ntmps87
 go_wp2
 go_ret
 exact ⟨rfl,rfl⟩
theorem own_set {w:World} {base g j:Nat} {v x:Value} {ys:List Int} (h:OwnB w base v ys) (hg:g<base):OwnB (w.setCell ⟨g,j,none⟩ x) base v ys:=
 ownsRow_same h fun k hk=>(chg_set w g j x).block k (own_lt h k hk) (by have:=own_base h k hk;omega)
set_option maxRecDepth 100000 in
theorem own_conv {w:World} {base:Nat} {A:Option Addr} {c:Nat} {ys:List Int} (h:OwnB w base (.slice A ys.length c) ys):(convert 31 9 (.slice A ys.length c)).run Try.prog w=.ok (.string (nameOf ys)) w:=by
 obtain ⟨A3,c3,e,hr⟩:=own_reads h
 injection e with e1 _ e2
 subst e1;subst e2
 rw [← strOf_name]
 exact string_of_reads Try.underlying31 Try.underlying5 Try.underlying9 (c:=c) hr
theorem nameB_nil:nameB (nameOf [])=false:=by kernel_rfl
set_option maxHeartbeats 4000000 in
theorem rname_calls (g:Nat) (xs:List Int) (N m:Int) (w:World) (h:RdOk w g xs N m) :
  Calls Try.prog 87 #[.pointer (some ⟨g,0,none⟩)] w (NamePost w g N m (nameR xs)):=by
 obtain ⟨A,n,c,hg,hs⟩:=h
 obtain ⟨c0,c1,c2,c3,z0,z1,z2,z3⟩:=row4 hg
 have HG:=Ak hg
 have HS:=Ak hs
 have hlen:=hs.len
 have hcap:=hs.cap
 have hn:=hs.reads.1
 have hU:=takeB_used (xs:=xs) (most:=32) hs.bytes
 obtain ⟨ys,hys⟩:∃ ys,ys=(takeB xs 32).1:=⟨_,rfl⟩
 obtain ⟨q,hq⟩:∃ q,q=(takeB xs 32).2.1:=⟨_,rfl⟩
 obtain ⟨er,her⟩:∃ er,er=(takeB xs 32).2.2:=⟨_,rfl⟩
 have hR:nameR xs=if er≠0 then .error (if er=2 then 8 else er) else if nameB (nameOf ys)=true then .ok (nameOf ys,xs.drop q.toNat) else .error 8:=by unfold nameR;rw [← hys,← hq,← her]
 rw [← hys,← hq,← her] at hU
 have hglt:=blk_lt hg
 have hsz:(nameOf ys).size≤140737488355328:=by have h1:=takeB_short_ xs 32;rw [nameOf_size,hys];omega
 have HSZ:=Ak hsz
 clear hsz
 by_cases he:er=0
 ·subst he
  have hq2:=hU.2.1
  obtain ⟨u,rfl⟩:∃ u:Nat,q=(u:Int):=⟨q.toNat,by omega⟩
  have hu3:u≤n:=by omega
  obtain ⟨A',hcut,hcs⟩:=cut_old (A:=A) (n:=n) (c:=c) u hu3
  have HCUT:=Ak hcut
  have HCS:=Ak (hcs w g xs hs)
  rw [if_neg (by simp),Int.toNat_natCast] at hR
  have HYS:=Ak hys
  have HQ:=Ak hq
  have HER:=Ak her
  have HGL:=Ak hglt
  cases hnb:nameB (nameOf ys) with
  | true =>
   rw [hnb,if_pos rfl] at hR
   have HR:=Ak hR
   have HNB:=Ak hnb
   clear hg hs hn hU hys hq her hR hcut hcs hnb hq2 hglt
   go_enter Try.func87,Try.ntmps87
   go_wp2_with (first
    | (go_at_call 105;go_must (refine (takeBytes_calls A n c xs 32 _ HS.out.reads hcap HS.out.bytes hlen (by decide) (by decide)).mono ?_;rintro e w1 ⟨v,rfl,ho,hb⟩;rw [← HYS.out] at ho;rw [← HQ.out,← HER.out];obtain ⟨A2,c2,rfl,-⟩:=own_reads ho;have HO1:=Ak (own_set (j:=0) (x:=.slice A' (n - u) (c - u)) ho HGL.out);have HG1:=Ak (blk_below HG.out hb);have HB1:=Ak hb;have h1:=own_conv HO1.out;clear ho hb))
    | (go_at_call 106;go_must (refine (skip_ok g A A' n c (n - u) (c - u) N m u _ HG1.out HCUT.out).mono ?_;rintro e w' ⟨rfl,hw⟩;subst hw))
    | (go_at_call 33;go_must (refine (name_calls _ _).mono ?_;rintro e w2 ⟨rfl,hb⟩;rw [HNB.out];have HO2:=Ak (pw_own_below HO1.out hb);have HG2:=Ak (blk_below (rd4_0 (x:=.slice A' (n - u) (c - u)) HG1.out) hb);have HB2:=Ak hb;have h2:=own_conv HO2.out;clear hb))
    | (go_at_call 104;go_must (refine (fail_no g A' (n - u) (c - u) N m 8 _ HG2.out).mono ?_;rintro e w' ⟨rfl,hw⟩;subst hw)))
   go_ret
   have hch:Chg (fun k=>k=g) w w':=chg_trans (Chg.of_below HB1.out) (chg_trans (chg_set _ _ _ _) (Chg.of_below HB2.out))
   exact ⟨_,rfl,HSZ.out,hch,by rw [HR.out];exact ⟨rfl,A',n - u,c - u,HG2.out,HCS.out.chg (Nat.le_of_lt HGL.out) (fun k e=>Nat.le_of_eq e.symm) hch⟩⟩
  | false =>
   rw [hnb,if_neg (by simp)] at hR
   have HR:=Ak hR
   have HNB:=Ak hnb
   clear hg hs hn hU hys hq her hR hcut hcs hnb hq2 hglt
   go_enter Try.func87,Try.ntmps87
   go_wp2_with (first
    | (go_at_call 105;go_must (refine (takeBytes_calls A n c xs 32 _ HS.out.reads hcap HS.out.bytes hlen (by decide) (by decide)).mono ?_;rintro e w1 ⟨v,rfl,ho,hb⟩;rw [← HYS.out] at ho;rw [← HQ.out,← HER.out];obtain ⟨A2,c2,rfl,-⟩:=own_reads ho;have HO1:=Ak (own_set (j:=0) (x:=.slice A' (n - u) (c - u)) ho HGL.out);have HG1:=Ak (blk_below HG.out hb);have HB1:=Ak hb;have h1:=own_conv HO1.out;clear ho hb))
    | (go_at_call 106;go_must (refine (skip_ok g A A' n c (n - u) (c - u) N m u _ HG1.out HCUT.out).mono ?_;rintro e w' ⟨rfl,hw⟩;subst hw))
    | (go_at_call 33;go_must (refine (name_calls _ _).mono ?_;rintro e w2 ⟨rfl,hb⟩;rw [HNB.out];have HO2:=Ak (own_set (j:=3) (x:=.int .i64 8) (pw_own_below HO1.out hb) HGL.out);have HG2:=Ak (blk_below (rd4_0 (x:=.slice A' (n - u) (c - u)) HG1.out) hb);have HB2:=Ak hb;have h2:=own_conv HO2.out;clear hb))
    | (go_at_call 104;go_must (refine (fail_yes g A' (n - u) (c - u) N m 8 _ HG2.out (by decide)).mono ?_;rintro e w' ⟨rfl,hw⟩;subst hw)))
   go_ret
   exact ⟨_,rfl,HSZ.out,chg_trans (Chg.of_below HB1.out) (chg_trans (chg_set _ _ _ _) (chg_trans (Chg.of_below HB2.out) (chg_set _ _ _ _))),by rw [HR.out];exact ⟨A',n - u,c - u,N,m,rd4_3 HG2.out⟩⟩
 ·rw [if_pos he] at hR
  have hy0:ys=[]:=hU.2.2.2 he
  obtain ⟨e2,he2⟩:∃ e2,e2=(if er=2 then 8 else er):=⟨_,rfl⟩
  rw [← he2] at hR
  have hne:e2≠0:=by rw [he2];split <;> omega
  have HNE:=Ak hne
  have HR:=Ak hR
  have HYS:=Ak hys
  have HQ:=Ak hq
  have HER:=Ak her
  have HGL:=Ak hglt
  have HNB:=Ak (show nameB (nameOf ys)=false by rw [hy0];exact nameB_nil)
  clear hy0
  have hq1:-9223372036854775808≤q∧q≤9223372036854775807:=by omega
  by_cases h2:er=2
  ·have h2':(er == 2)=true:=by simp [h2]
   rw [if_pos h2] at he2
   subst he2
   clear hg hs hn hU hys hq her hR hglt hne he h2
   go_enter Try.func87,Try.ntmps87
   go_wp2_with (first
    | (go_at_call 105;go_must (refine (takeBytes_calls A n c xs 32 _ HS.out.reads hcap HS.out.bytes hlen (by decide) (by decide)).mono ?_;rintro e w1 ⟨v,rfl,ho,hb⟩;rw [← HYS.out] at ho;rw [← HQ.out,← HER.out];obtain ⟨A2,c2,rfl,-⟩:=own_reads ho;have HO1:=Ak (own_set (j:=3) (x:=.int .i64 8) ho HGL.out);have HG1:=Ak (blk_below HG.out hb);have HB1:=Ak hb;have h1:=own_conv HO1.out;clear ho hb))
    | (go_at_call 106;go_must (refine (skip_no g A n c N m q 8 _ HG1.out (by decide)).mono ?_;rintro e w' ⟨rfl,hw⟩;subst hw))
    | (go_at_call 33;go_must (refine (name_calls _ _).mono ?_;rintro e w2 ⟨rfl,hb⟩;rw [HNB.out];have HO2:=Ak (pw_own_below HO1.out hb);have HG2:=Ak (blk_below (rd4_3 (x:=.int .i64 8) HG1.out) hb);have HB2:=Ak hb;have h2:=own_conv HO2.out;clear hb))
    | (go_at_call 104;go_must (refine (fail_bad g A n c N m 8 8 _ _ HG2.out (by decide)).mono ?_;rintro e w' ⟨rfl,hw⟩;subst hw)))
   go_ret
   exact ⟨_,rfl,HSZ.out,chg_trans (Chg.of_below HB1.out) (chg_trans (chg_set _ _ _ _) (Chg.of_below HB2.out)),by rw [HR.out];exact ⟨A,n,c,N,m,HG2.out⟩⟩
  ·have h2':(er == 2)=false:=by simp [h2]
   rw [if_neg h2] at he2
   subst he2
   clear hg hs hn hU hys hq her hR hglt hne he h2
   go_enter Try.func87,Try.ntmps87
   go_wp2_with (first
    | (go_at_call 105;go_must (refine (takeBytes_calls A n c xs 32 _ HS.out.reads hcap HS.out.bytes hlen (by decide) (by decide)).mono ?_;rintro e w1 ⟨v,rfl,ho,hb⟩;rw [← HYS.out] at ho;rw [← HQ.out,← HER.out];obtain ⟨A2,c2,rfl,-⟩:=own_reads ho;have HO1:=Ak (own_set (j:=3) (x:=.int .i64 e2) ho HGL.out);have HG1:=Ak (blk_below HG.out hb);have HB1:=Ak hb;have h1:=own_conv HO1.out;clear ho hb))
    | (go_at_call 106;go_must (refine (skip_no g A n c N m q e2 _ HG1.out HNE.out).mono ?_;rintro e w' ⟨rfl,hw⟩;subst hw))
    | (go_at_call 33;go_must (refine (name_calls _ _).mono ?_;rintro e w2 ⟨rfl,hb⟩;rw [HNB.out];have HO2:=Ak (pw_own_below HO1.out hb);have HG2:=Ak (blk_below (rd4_3 (x:=.int .i64 e2) HG1.out) hb);have HB2:=Ak hb;have h2:=own_conv HO2.out;clear hb))
    | (go_at_call 104;go_must (refine (fail_bad g A n c N m e2 8 _ _ HG2.out HNE.out).mono ?_;rintro e w' ⟨rfl,hw⟩;subst hw)))
   go_ret
   exact ⟨_,rfl,HSZ.out,chg_trans (Chg.of_below HB1.out) (chg_trans (chg_set _ _ _ _) (Chg.of_below HB2.out)),by rw [HR.out];exact ⟨A,n,c,N,m,HG2.out⟩⟩
end Go.Proofs.Ytcgkeolgflphiaa

namespace Go.Proofs.Ytcgkeolgflphiaa
open Go.RowKit Go.Proofs.YtcgkeolgflphiaaW.PrintWords Go.RegionInvYtcgkeolgflphiaa

def RdSt {α:Type} (W:World) (g:Nat) (N:Int) (x:α):Except Int (α × List Int × Int)→Prop
 | .ok (t,r,m)=>x=t∧RdOk W g r N m
 | .error k=>RdBad W g k
theorem RdSt.chg {α:Type} {W W':World} {g:Nat} {N:Int} {x:α} {R:Except Int (α × List Int × Int)} {S:Nat→Prop} (h:RdSt W g N x R) (hS:∀ k,S k→g<k) (hc:Chg S W W'):RdSt W' g N x R:=by
 cases R with
 | error e=>exact RdBad.chg h hS hc
 | ok y=>exact ⟨h.1,RdOk.chg h.2 hS hc⟩
def LvRd (w:World) (g:Nat) (N:Int) (R:Except Int (Lv × List Int × Int)) (e:Ending) (w':World):Prop:=
 ∃ A c l,e=.returned (lvV A c l)∧LvS w' (fun b=>w.heap.size≤b) A c l∧Chg (fun k=>k=g) w w'∧RdSt w' g N l R
abbrev lvO (k n:Int) (V:Value):Obj:=.cells #[.int .i64 k,.int .i64 n,V] 24 (0,0)
structure LvBx (w W:World) (g gO:Nat) (k n:Int) (V:Value):Prop where
 out:W.heap[gO]?=some (lvO k n V)
 res:W.heap[w.heap.size]?=some (lvO 0 0 (.slice none 0 0))
 chg:Chg (fun k=>k=g) w W
 far:w.heap.size<gO
 glt:g<w.heap.size
theorem row3l {w:World} {g:Nat} {a b c:Value} {t:TypeId} (h:w.heap[g]?=some (.cells #[a,b,c] t (0,0))) :
  w.cell? ⟨g,0,none⟩=some a∧w.cell? ⟨g,1,none⟩=some b∧w.cell? ⟨g,2,none⟩=some c∧w.frozen? ⟨g,0,none⟩=false∧w.frozen? ⟨g,1,none⟩=false∧w.frozen? ⟨g,2,none⟩=false:=by
 refine ⟨?_,?_,?_,blk_frozen h 0,blk_frozen h 1,blk_frozen h 2⟩ <;> (rw [cell_of_row _ _ _ _ _ _ h];rfl)
theorem LvBx.reader {w W W':World} {g gO:Nat} {k n:Int} {V:Value} (h:LvBx w W g gO k n V) (hc:Chg (fun k=>k=g) W W'):LvBx w W' g gO k n V:=by
 have:=h.far
 have:=h.glt
 exact ⟨(hc.block _ (blk_lt h.out) (by omega)).trans h.out,(hc.block _ (blk_lt h.res) (by omega)).trans h.res,chg_trans h.chg hc,h.far,h.glt⟩
theorem lvBx_new {w w2:World} {g:Nat} {k:Int} (hg:g<w.heap.size) (hc:Chg (fun k=>k=g) (w.alloc (lvO 0 0 (.slice none 0 0))) w2):LvBx w (w2.alloc (lvO k 0 (.slice none 0 0))) g w2.heap.size k 0 (.slice none 0 0):=by
 have hz:=hc.size
 have hs:(w.alloc (lvO 0 0 (.slice none 0 0))).heap.size=w.heap.size+1:=by simp
 refine ⟨blk_new _ _,blk_alloc ((hc.block _ (by omega) (by omega)).trans (blk_new _ _)) _,chg_trans (Chg.of_below (below_alloc (Below.refl _ _) _)) (chg_trans hc (Chg.of_below (below_alloc (Below.refl _ _) _))),by omega,hg⟩
theorem lvRd_fin {w W:World} {g gO:Nat} {k n N:Int} {A:Option Addr} {c L:Nat} {l:List Lv} {R:Except Int (Lv × List Int × Int)} (hb:LvBx w W g gO k n (.slice A L c)) (hL:L=l.length) (hl:LvS W (fun b=>gO<b) A c (.mk k n l))
  (hR:RdSt W g N (Lv.mk k n l) R) :
  LvRd w g N R (.returned (.agg #[.int .i64 k,.int .i64 n,.slice A L c])) (((W.setCell ⟨w.heap.size,0,none⟩ (.int .i64 k)).setCell ⟨w.heap.size,1,none⟩ (.int .i64 n)).setCell ⟨w.heap.size,2,none⟩ (.slice A L c)):=by
 subst hL
 have hch:=chg_set3 W w.heap.size (.int .i64 k) (.int .i64 n) (.slice A l.length c)
 have hfar:=hb.far
 have hglt:=hb.glt
 have hz:=hb.chg.size
 refine ⟨A,c,.mk k n l,rfl,(hl.same fun b hb' hz=>hch.block b hz (by omega)).mono fun b hb' _=>by omega,?_,?_⟩
 ·refine ⟨hch.os.trans hb.chg.os,hch.tape.trans hb.chg.tape,hch.output.trans hb.chg.output,Nat.le_trans hb.chg.size hch.size,fun i hi hs=>?_⟩
  rw [hch.block i (Nat.lt_of_lt_of_le hi hb.chg.size) (by omega),hb.chg.block i hi hs]
 ·exact hR.chg (S:=fun k=>k=w.heap.size) (fun k e=>by omega) hch
theorem lvRd_fin0 {w W:World} {g gO:Nat} {k N e:Int} (hb:LvBx w W g gO k 0 (.slice none 0 0)) (hR:RdBad W g e) :
  LvRd w g N (.error e) (.returned (.agg #[.int .i64 k,.int .i64 0,.slice none 0 0])) (((W.setCell ⟨w.heap.size,0,none⟩ (.int .i64 k)).setCell ⟨w.heap.size,1,none⟩ (.int .i64 0)).setCell ⟨w.heap.size,2,none⟩ (.slice none 0 0)):=
 lvRd_fin (l:=[]) hb rfl (LvS.leaf0 _ _ _ _) hR
theorem LvBx.set {w W:World} {g gO:Nat} {k n:Int} {V:Value} (h:LvBx w W g gO k n V) (a b c:Value):(((W.setCell ⟨w.heap.size,0,none⟩ a).setCell ⟨w.heap.size,1,none⟩ b).setCell ⟨w.heap.size,2,none⟩ c).heap[w.heap.size]?=some (.cells #[a,b,c] 24 (0,0)):=set3 h.res

set_option maxHeartbeats 4000000 in
theorem level_bad (g:Nat) (xs:List Int) (N m d er:Int) (w:World) (h:RdOk w g xs N m) (hK:kindR 4 xs=.error er) :
  Calls Try.prog 119 #[.pointer (some ⟨g,0,none⟩),.int .i64 d] w (LvRd w g N (.error er)):=by
 have he:=kind_err hK
 have HE:=Ak he
 have HK:=Ak hK
 have HR:=Ak h
 have HGL:=Ak h.lt
 clear h hK he
 go_enter Try.func119,Try.ntmps119
 go_upto_region 2 with (go_at_call 86;go_must (refine (kind_calls g xs N m 4 _ (HR.out.below (below_alloc (Below.refl _ _) _)) (by decide) (by decide)).mono ?_;rintro e w2 ⟨hc,hm⟩;rw [HK.out] at hm;obtain ⟨rfl,hbad⟩:=hm;have HBX:=Ak (lvBx_new (k:=0) HGL.out hc);have HBAD:=Ak (RdBad.below hbad (below_alloc (Below.refl _ _) (lvO 0 0 (.slice none 0 0))));clear hc hbad))
 obtain ⟨gO,hgO⟩:∃ gO,gO=w2.heap.size:=⟨_,rfl⟩
 rw [← hgO] at HBX ⊢
 obtain ⟨W3,hW3⟩:∃ W3,W3=w2.alloc (lvO 0 0 (.slice none 0 0)):=⟨_,rfl⟩
 rw [← hW3] at HBX HBAD ⊢
 clear hW3 hgO
 obtain ⟨A3,n3,c3',N3,m3,hg3⟩:=HBAD.out
 obtain ⟨c0,c1,c2,c3,z0,z1,z2,z3⟩:=row4 hg3
 have HG3:=Ak hg3
 clear hg3
 go_upto_region 3 with (fail)
 obtain ⟨mm,hmm⟩:∃ mm,mm=wrap64 (m3+1):=⟨_,rfl⟩
 rw [← hmm]
 clear c0 c1 c2 c3 z0 z1 z2 z3 hmm
 have HG4:=Ak (rd4_2 (x:=.int .i64 mm) HG3.out)
 have HB4:=Ak (HBX.out.reader (chg_set W3 g 2 (.int .i64 mm)))
 obtain ⟨W4,hW4⟩:∃ W4,W4=W3.setCell ⟨g,2,none⟩ (.int .i64 mm):=⟨_,rfl⟩
 rw [← hW4] at HG4 HB4 ⊢
 clear hW4 HBX HG3 HBAD
 obtain ⟨c0,c1,c2,c3,z0,z1,z2,z3⟩:=row4 HG4.out
 obtain ⟨d0,d1,d2,y0,y1,y2⟩:=row3l HB4.out.out
 obtain ⟨e0,e1,e2,x0,x1,x2⟩:=row3l HB4.out.res
 by_cases hd:32<d
 ·have hd':decide (32<d)=true:=decide_eq_true hd
  clear hd
  go_wp2_with (go_at_call 104;go_must (refine (fail_bad g A3 n3 c3' N3 mm er 2 _ _ HG4.out HE.out).mono ?_;rintro e w' ⟨rfl,hw⟩;subst hw))
  refine bodyPost_ret (results_c rfl _ _ w.heap.size 24 #[.int .i64 0,.int .i64 0,.slice none 0 0] (0,0) _ rfl (HB4.out.set _ _ _) Try.underlying24 rfl (by kernel_rfl)) rfl ?_
  exact lvRd_fin0 HB4.out ⟨_,_,_,_,_,HG4.out⟩
 ·have hd':decide (32<d)=false:=decide_eq_false hd
  clear hd
  go_wp2_with (go_at_call 104;go_must (refine (fail_bad g A3 n3 c3' N3 mm er 2 _ _ HG4.out HE.out).mono ?_;rintro e w' ⟨rfl,hw⟩;subst hw))
  refine bodyPost_ret (results_c rfl _ _ w.heap.size 24 #[.int .i64 0,.int .i64 0,.slice none 0 0] (0,0) _ rfl (HB4.out.set _ _ _) Try.underlying24 rfl (by kernel_rfl)) rfl ?_
  exact lvRd_fin0 HB4.out ⟨_,_,_,_,_,HG4.out⟩


set_option maxHeartbeats 4000000 in
theorem level_deep (g:Nat) (xs r:List Int) (N m d k:Int) (w:World) (h:RdOk w g xs N m) (hK:kindR 4 xs=.ok (k,r)) (hm0:0≤m) (hm1:m≤100) (hd:32<d∨100<m+1) :
  Calls Try.prog 119 #[.pointer (some ⟨g,0,none⟩),.int .i64 d] w (LvRd w g N (.error 2)):=by
 have HK:=Ak hK
 have HR:=Ak h
 have HGL:=Ak h.lt
 have HD:=Ak hd
 clear h hK hd
 go_enter Try.func119,Try.ntmps119
 go_upto_region 2 with (go_at_call 86;go_must (refine (kind_calls g xs N m 4 _ (HR.out.below (below_alloc (Below.refl _ _) _)) (by decide) (by decide)).mono ?_;rintro e w2 ⟨hc,hm⟩;rw [HK.out] at hm;obtain ⟨rfl,hok⟩:=hm;have HBX:=Ak (lvBx_new (k:=k) HGL.out hc);have HOK:=Ak (RdOk.below hok (below_alloc (Below.refl _ _) (lvO k 0 (.slice none 0 0))));clear hc hok))
 obtain ⟨gO,hgO⟩:∃ gO,gO=w2.heap.size:=⟨_,rfl⟩
 rw [← hgO] at HBX ⊢
 obtain ⟨W3,hW3⟩:∃ W3,W3=w2.alloc (lvO k 0 (.slice none 0 0)):=⟨_,rfl⟩
 rw [← hW3] at HBX HOK ⊢
 clear hW3 hgO
 obtain ⟨A3,n3,c3',hg3,-⟩:=HOK.out
 obtain ⟨c0,c1,c2,c3,z0,z1,z2,z3⟩:=row4 hg3
 have HG3:=Ak hg3
 clear hg3
 go_upto_region 3 with (fail)
 obtain ⟨mm,hmm⟩:∃ mm,mm=m+1:=⟨_,rfl⟩
 rw [← hmm]
 rw [← hmm] at HD
 clear c0 c1 c2 c3 z0 z1 z2 z3 hmm
 have HG4:=Ak (rd4_2 (x:=.int .i64 mm) HG3.out)
 have HB4:=Ak (HBX.out.reader (chg_set W3 g 2 (.int .i64 mm)))
 obtain ⟨W4,hW4⟩:∃ W4,W4=W3.setCell ⟨g,2,none⟩ (.int .i64 mm):=⟨_,rfl⟩
 rw [← hW4] at HG4 HB4 ⊢
 clear hW4 HBX HG3 HOK
 obtain ⟨c0,c1,c2,c3,z0,z1,z2,z3⟩:=row4 HG4.out
 have HB5:=Ak (HB4.out.reader (chg_set W4 g 3 (.int .i64 2)))
 obtain ⟨d0,d1,d2,y0,y1,y2⟩:=row3l HB4.out.out
 obtain ⟨e0,e1,e2,x0,x1,x2⟩:=row3l HB4.out.res
 by_cases hd:32<d
 ·have hd':decide (32<d)=true:=decide_eq_true hd
  clear hd
  go_upto_region 4 with (go_at_call 104;go_must (refine (fail_yes g A3 n3 c3' N mm 2 _ HG4.out (by decide)).mono ?_;rintro e w' ⟨rfl,hw⟩;subst hw))
  clear c0 c1 c2 c3 z0 z1 z2 z3 d0 d1 d2 y0 y1 y2 e0 e1 e2 x0 x1 x2
  have HG5:=Ak (rd4_3 (x:=.int .i64 2) HG4.out)
  obtain ⟨W5,hW5⟩:∃ W5,W5=W4.setCell ⟨g,3,none⟩ (.int .i64 2):=⟨_,rfl⟩
  rw [← hW5] at HG5 HB5 ⊢
  clear hW5
  obtain ⟨d0,d1,d2,y0,y1,y2⟩:=row3l HB5.out.out
  obtain ⟨e0,e1,e2,x0,x1,x2⟩:=row3l HB5.out.res
  go_wp2
  refine bodyPost_ret (results_c rfl _ _ w.heap.size 24 #[.int .i64 k,.int .i64 0,.slice none 0 0] (0,0) _ rfl (HB5.out.set _ _ _) Try.underlying24 rfl (by kernel_rfl)) rfl ?_
  exact lvRd_fin0 HB5.out ⟨_,_,_,_,_,HG5.out⟩
 ·have hd':decide (32<d)=false:=decide_eq_false hd
  have hm':decide (100<mm)=true:=decide_eq_true (HD.out.resolve_left hd)
  clear hd
  go_upto_region 4 with (go_at_call 104;go_must (refine (fail_yes g A3 n3 c3' N mm 2 _ HG4.out (by decide)).mono ?_;rintro e w' ⟨rfl,hw⟩;subst hw))
  clear c0 c1 c2 c3 z0 z1 z2 z3 d0 d1 d2 y0 y1 y2 e0 e1 e2 x0 x1 x2
  have HG5:=Ak (rd4_3 (x:=.int .i64 2) HG4.out)
  obtain ⟨W5,hW5⟩:∃ W5,W5=W4.setCell ⟨g,3,none⟩ (.int .i64 2):=⟨_,rfl⟩
  rw [← hW5] at HG5 HB5 ⊢
  clear hW5
  obtain ⟨d0,d1,d2,y0,y1,y2⟩:=row3l HB5.out.out
  obtain ⟨e0,e1,e2,x0,x1,x2⟩:=row3l HB5.out.res
  go_wp2
  refine bodyPost_ret (results_c rfl _ _ w.heap.size 24 #[.int .i64 k,.int .i64 0,.slice none 0 0] (0,0) _ rfl (HB5.out.set _ _ _) Try.underlying24 rfl (by kernel_rfl)) rfl ?_
  exact lvRd_fin0 HB5.out ⟨_,_,_,_,_,HG5.out⟩
end Go.Proofs.Ytcgkeolgflphiaa

namespace Go.Proofs.Ytcgkeolgflphiaa
open Go.RowKit Go.Proofs.YtcgkeolgflphiaaW.PrintWords Go.RegionInvYtcgkeolgflphiaa

theorem kids_snoc {α:Type} {h:List Int→Int→Except Int (α × List Int × Int)}:∀ (n:Nat) (xs:List Int) (m:Int),kidsR h (n+1) xs m=match kidsR h n xs m with
  | .error e=>.error e
  | .ok (l,r,m1)=>match h r m1 with
   | .error e=>.error e
   | .ok (t,r',m2)=>.ok (l ++ [t],r',m2)
 | 0,xs,m=>by
  simp only [kidsR]
  cases h xs m with
  | error e=>rfl
  | ok x=>rfl
 | n+1,xs,m=>by
  have ih:=fun r m1=>kids_snoc (h:=h) n r m1
  rw [kidsR]
  cases h1:h xs m with
  | error e=>simp only [kidsR,h1]
  | ok x =>
   obtain ⟨t,r,m1⟩:=x
   simp only []
   rw [ih r m1]
   conv=>rhs;rw [kidsR,h1]
   simp only []
   cases kidsR h n r m1 with
   | error e=>rfl
   | ok y =>
    obtain ⟨l,r',m2⟩:=y
    simp only []
    cases h r' m2 with
    | error e=>rfl
    | ok z=>rfl
theorem kids_grow {α:Type} {q:Int} {h:List Int→Int→Except Int (α × List Int × Int)} (hh:∀ {xs r:List Int} {m m':Int} {t:α},0≤m→m≤q→h xs m=.ok (t,r,m')→0≤m'∧m'≤q):∀ (n:Nat) {xs r:List Int} {m m':Int} {l:List α},0≤m→m≤q→kidsR h n xs m=.ok (l,r,m')→0≤m'∧m'≤q
 | 0,xs,r,m,m',l,h0,h1,e=>by
  simp only [kidsR,Except.ok.injEq,Prod.mk.injEq] at e
  obtain ⟨-,-,rfl⟩:=e
  exact ⟨h0,h1⟩
 | n+1,xs,r,m,m',l,h0,h1,e=>by
  unfold kidsR at e
  split at e
  ·cases e
  ·rename_i t r1 m1 e1
   split at e
   ·cases e
   ·rename_i l' r2 m2 e2
    simp only [Except.ok.injEq,Prod.mk.injEq] at e
    obtain ⟨-,-,rfl⟩:=e
    have:=hh h0 h1 e1
    exact kids_grow hh n this.1 this.2 e2
theorem lv_grow:∀ (f:Nat) {xs r:List Int} {m m':Int} {t:Lv},0≤m→m≤100→lvR f xs m=.ok (t,r,m')→0≤m'∧m'≤100
 | 0,xs,r,m,m',t,_,_,h=>by
  unfold lvR at h
  split at h <;> cases h
 | f+1,xs,r,m,m',t,h0,h1,h=>by
  unfold lvR at h
  split at h
  ·cases h
  ·split at h
   ·cases h
   ·split at h
    ·cases h
    ·split at h
     ·cases h
     ·rename_i hl
      simp only [Except.ok.injEq,Prod.mk.injEq] at h
      obtain ⟨-,-,rfl⟩:=h
      exact kids_grow (fun h0 h1 e=>lv_grow f h0 h1 e) _ (by omega) (by omega) hl
def lvNum (k:Int) (r:List Int):Except Int (Int × List Int):=if k=4 then .ok (0,r) else numR r
def okNum:Except Int (Int × List Int)→Int | .ok (n,_)=>n | .error _=>0
def lvPre (f:Nat) (R0:Except Int (Int × List Int)) (m:Int) (j:Nat):Except Int (List Lv × List Int × Int):=match R0 with
 | .error e=>.error e
 | .ok (_,r0)=>kidsR (lvR f) j r0 m
theorem lvR_pre {f:Nat} {xs r:List Int} {m k:Int} (hK:kindR 4 xs=.ok (k,r)) (hm:m<100):lvR (f+1) xs m=match lvPre f (lvNum k r) (m+1) (lvKids k) with
  | .error e=>.error e
  | .ok (l,r1,m1)=>.ok (.mk k (okNum (lvNum k r)) l,r1,m1):=by
 rw [lvR,hK]
 simp only []
 rw [if_neg (by omega)]
 show (match lvNum k r with | .error e=>_ | .ok (n,r0)=>_)=_
 cases lvNum k r with
 | error e=>rfl
 | ok x =>
  obtain ⟨n,r0⟩:=x
  simp only [lvPre]
  cases kidsR (lvR f) (lvKids k) r0 (m+1) with
  | error e=>rfl
  | ok y=>rfl
theorem lvPre_err {f:Nat} {R0:Except Int (Int × List Int)} {m e:Int} {j:Nat} (h:lvPre f R0 m j=.error e):lvPre f R0 m (j+1)=.error e:=by
 unfold lvPre at h ⊢
 cases R0 with
 | error e'=>exact h
 | ok x =>
  obtain ⟨n,r0⟩:=x
  simp only [] at h ⊢
  rw [kids_snoc,h]
theorem lvPre_ok {f:Nat} {R0:Except Int (Int × List Int)} {m m1:Int} {j:Nat} {l:List Lv} {r:List Int} (h:lvPre f R0 m j=.ok (l,r,m1)):lvPre f R0 m (j+1)=match lvR f r m1 with
  | .error e=>.error e
  | .ok (t,r',m2)=>.ok (l ++ [t],r',m2):=by
 unfold lvPre at h ⊢
 cases R0 with
 | error e'=>cases h
 | ok x =>
  obtain ⟨n,r0⟩:=x
  simp only [] at h ⊢
  simp only [kids_snoc,h]
  cases lvR f r m1 <;> rfl
theorem lvPre_grow {f:Nat} {R0:Except Int (Int × List Int)} {m m1:Int} {j:Nat} {l:List Lv} {r:List Int} (h:lvPre f R0 m j=.ok (l,r,m1)) (h0:0≤m) (h1:m≤100):0≤m1∧m1≤100:=by
 unfold lvPre at h
 cases R0 with
 | error e'=>cases h
 | ok x =>
  obtain ⟨n,r0⟩:=x
  exact kids_grow (fun h0 h1 e=>lv_grow f h0 h1 e) _ h0 h1 h
theorem lvPre_ne {f:Nat} {k:Int} {r0:List Int} {m e:Int} {j:Nat} (h:lvPre f (lvNum k r0) m j=.error e):e≠0:=by
 unfold lvPre at h
 cases hn:lvNum k r0 with
 | error e' =>
  rw [hn] at h
  unfold lvNum at hn
  split at hn
  ·cases hn
  ·cases h;exact num_err hn
 | ok x =>
  obtain ⟨n,r0⟩:=x
  rw [hn] at h
  exact kids_err (fun h=>lv_err f h) _ h
def NumSt (W:World) (g:Nat) (N m:Int):Except Int (Int × List Int)→Prop | .ok (_,r)=>RdOk W g r N m | .error e=>RdBad W g e
theorem NumSt.chg {W W':World} {g:Nat} {N m:Int} {R:Except Int (Int × List Int)} {S:Nat→Prop} (h:NumSt W g N m R) (hS:∀ k,S k→g<k) (hc:Chg S W W'):NumSt W' g N m R:=by
 cases R with
 | error e=>exact RdBad.chg h hS hc
 | ok x=>exact RdOk.chg h hS hc
def LvSt (W:World) (g:Nat) (N:Int) (R:Except Int (List Lv × List Int × Int)) (l:List Lv):Prop:=match R with
 | .ok (l',r,m)=>l=l'∧RdOk W g r N m
 | .error e=>RdBad W g e
theorem LvSt.chg {W W':World} {g:Nat} {N:Int} {R:Except Int (List Lv × List Int × Int)} {l:List Lv} {S:Nat→Prop} (h:LvSt W g N R l) (hS:∀ k,S k→g<k) (hc:Chg S W W'):LvSt W' g N R l:=by
 cases R with
 | error e=>exact RdBad.chg h hS hc
 | ok x=>exact ⟨h.1,RdOk.chg h.2 hS hc⟩
structure LIn (w W:World) (g gO:Nat) (k n:Int) (V:Value) (xs:List Lv) (A:Option Addr) (c:Nat) (x:Lv):Prop where
 bx:LvBx w W g gO k n V
 kids:KidsAt W (gO+1) V xs
 kid:LvS W (fun b=>gO+1≤b∧V.ownBlock≠some b) A c x
 size:gO+1≤W.heap.size
theorem LvBx.below {w W W':World} {g gO:Nat} {k n:Int} {V:Value} (h:LvBx w W g gO k n V) (hb:Below W.heap.size W W'):LvBx w W' g gO k n V:=h.reader (Chg.of_below hb)
theorem lin_in {w wr W3 w5:World} {g gO:Nat} {k n:Int} {V:Value} {xs:List Lv} {A:Option Addr} {c:Nat} {x:Lv} (hb:LvBx w wr g gO k n V) (hk:KidsAt wr (gO+1) V xs) (h3:Below wr.heap.size wr W3) (h5:Chg (fun k=>k=g) W3 w5) (hl:LvS w5 (fun b=>W3.heap.size≤b) A c x):LIn w w5 g gO k n V xs A c x:=by
 have hbb:Chg (fun k=>k=g) wr w5:=chg_trans (Chg.of_below h3) h5
 have hlt:=blk_lt hb.out
 have hfar:=hb.far
 have hglt:=hb.glt
 refine ⟨hb.reader hbb,hk.other hbb (by omega),hl.mono fun b hb' _=>⟨by have:=h3.size;omega,fun e=>?_⟩,by have:=hbb.size;omega⟩
 obtain ⟨cells,fA,fc,hown,_⟩:=hk
 have:=own_lt hown b e
 have:=h3.size
 omega
theorem LIn.drew {w W:World} {g gO:Nat} {k n:Int} {V:Value} {xs:List Lv} {A:Option Addr} {c:Nat} {x:Lv} (h:LIn w W g gO k n V xs A c x):LIn w W.drew g gO k n V xs A c x:=
 ⟨h.bx.below (below_drew (Below.refl _ _)),h.kids.later (below_drew (Below.refl _ _)),h.kid.later (below_drew (Below.refl _ _)),h.size⟩
theorem LIn.cell {w W:World} {g gO:Nat} {k n:Int} {V:Value} {xs:List Lv} {A:Option Addr} {c:Nat} {x:Lv} (h:LIn w W g gO k n V xs A c x):W.cell? ⟨gO,2,none⟩=some V:=by
 rw [cell_of_row _ _ _ _ _ _ h.bx.out];rfl
theorem LIn.cell2 {w W:World} {g gO:Nat} {k n:Int} {V:Value} {xs:List Lv} {A:Option Addr} {c:Nat} {x:Lv} (h:LIn w W g gO k n V xs A c x) (ob:Obj):(W.alloc ob).cell? ⟨gO,2,none⟩=some V:=by
 rw [cell_of_row _ _ _ _ _ _ (blk_alloc h.bx.out ob)];rfl
structure LOut (w W5 W:World) (g gO:Nat) (k n:Int) (V V6:Value) (xs:List Lv):Prop where
 bx:LvBx w W g gO k n V
 kids:KidsAt W (gO+1) V6 xs
 chg:Chg (fun k=>g<k) W5 W
theorem LOut.cell {w W5 W:World} {g gO:Nat} {k n:Int} {V V6:Value} {xs:List Lv} (h:LOut w W5 W g gO k n V V6 xs):W.cell? ⟨gO,2,none⟩=some V:=by
 rw [cell_of_row _ _ _ _ _ _ h.bx.out];rfl
theorem lin_push {w w5 w6:World} {g gO:Nat} {k n:Int} {V v6:Value} {xs:List Lv} {A:Option Addr} {c:Nat} {x:Lv} {cells:List Value} {fA:Nat→Option Addr} {fc:Nat→Nat} (h:LIn w w5 g gO k n V xs A c x)
  (ho:w5.ownsRow (gO+1) 24 3 V xs.length cells)
  (hk:∀ (i:Nat) (x:Lv),xs[i]?=some x→cells[i * 3]?=some (.int .i64 x.kind)∧cells[i * 3+1]?=some (.int .i64 x.num)∧cells[i * 3+2]?=some (.slice (fA i) x.kids.length (fc i))∧LvS w5 (fun b=>gO+1≤b∧V.ownBlock≠some b) (fA i) (fc i) x)
  (ho1:w6.ownsRow (gO+1) 24 3 v6 (xs.length+1) (cells ++ [.int .i64 x.kind,.int .i64 x.num,.slice A x.kids.length c])) (hg:w5.grownBy w6 V.ownBlock) (hat:v6.ownBlock=V.ownBlock∨∃ b,v6.ownBlock=some b∧w5.heap.size≤b):LOut w w5 w6 g gO k n V v6 (xs ++ [x]):=by
 have far:∀ k,k<gO+1→some k≠V.ownBlock:=fun k hk e=>by have:=own_base ho k e.symm;omega
 have hfar:=h.bx.far
 have hglt:=h.bx.glt
 have hch:Chg (fun k=>gO+1≤k) w5 w6:=⟨hg.os,hg.tape,hg.output,hg.size,fun i hi hn=>hg.block i hi (far i (by omega))⟩
 refine ⟨⟨(hch.block _ (blk_lt h.bx.out) (by omega)).trans h.bx.out,(hch.block _ (blk_lt h.bx.res) (by omega)).trans h.bx.res,?_,hfar,hglt⟩,KidsAt.push ho hk h.kid ho1 hg hat,hch.mono fun i hi=>by omega⟩
 refine ⟨hch.os.trans h.bx.chg.os,hch.tape.trans h.bx.chg.tape,hch.output.trans h.bx.chg.output,Nat.le_trans h.bx.chg.size hch.size,fun i hi hs=>?_⟩
 rw [hch.block i (Nat.lt_of_lt_of_le hi h.bx.chg.size) (by omega),h.bx.chg.block i hi hs]
structure LvLoop (w W:World) (g gO:Nat) (k n N:Int) (V:Value) (l:List Lv) (R:Except Int (List Lv × List Int × Int)) (j:Nat):Prop where
 bx:LvBx w W g gO k n V
 kids:KidsAt W (gO+1) V l
 st:LvSt W g N R l
 len:l.length≤j
theorem LvBx.num {w W:World} {g gO:Nat} {k n n':Int} {V:Value} (h:LvBx w W g gO k n V):LvBx w (W.setCell ⟨gO,1,none⟩ (.int .i64 n')) g gO k n' V:=by
 have hc:=chg_set W gO 1 (.int .i64 n')
 have hfar:=h.far
 have hglt:=h.glt
 refine ⟨blk_put h.out 1 _ rfl,(hc.block _ (blk_lt h.res) (by omega)).trans h.res,⟨hc.os.trans h.chg.os,hc.tape.trans h.chg.tape,hc.output.trans h.chg.output,Nat.le_trans h.chg.size hc.size,fun i hi hs=>?_⟩,hfar,hglt⟩
 rw [hc.block i (Nat.lt_of_lt_of_le hi h.chg.size) (by omega),h.chg.block i hi hs]
theorem LvBx.row {w W:World} {g gO:Nat} {k n:Int} {V V':Value} (h:LvBx w W g gO k n V):LvBx w (W.setCell ⟨gO,2,none⟩ V') g gO k n V':=by
 have hc:=chg_set W gO 2 V'
 have hfar:=h.far
 have hglt:=h.glt
 refine ⟨blk_put h.out 2 _ rfl,(hc.block _ (blk_lt h.res) (by omega)).trans h.res,⟨hc.os.trans h.chg.os,hc.tape.trans h.chg.tape,hc.output.trans h.chg.output,Nat.le_trans h.chg.size hc.size,fun i hi hs=>?_⟩,hfar,hglt⟩
 rw [hc.block i (Nat.lt_of_lt_of_le hi h.chg.size) (by omega),h.chg.block i hi hs]
theorem lout_fin {w w5 w6:World} {g gO j:Nat} {k n N:Int} {V V6:Value} {xs:List Lv} {R:Except Int (List Lv × List Int × Int)} (h:LOut w w5 w6 g gO k n V V6 xs) (hst:LvSt w5 g N R xs) (hl:xs.length≤j) :
  ∃ v5 l5,Aside0 (LvLoop w (w6.setCell ⟨gO,2,none⟩ V6) g gO k n N v5 l5 R j):=by
 have hfar:=h.bx.far
 have hglt:=h.bx.glt
 exact ⟨V6,xs,⟨h.bx.row,h.kids.other (chg_set _ _ _ _) (by omega),(hst.chg (S:=fun k=>g<k) (fun _ h=>h) h.chg).chg (S:=fun k=>k=gO) (fun k e=>by omega) (chg_set _ _ _ _),hl⟩⟩
end Go.Proofs.Ytcgkeolgflphiaa

namespace Go.Proofs.Ytcgkeolgflphiaa
open Go.RowKit Go.Proofs.YtcgkeolgflphiaaW.PrintWords Go.RegionInvYtcgkeolgflphiaa

theorem NumPost.one {w w':World} {g:Nat} {N m:Int} {R:Except Int (Int × List Int)} {e:Ending} (h:NumPost w g N m R e w'):∃ nn,e=.returned (.int .i64 nn)∧nn=okNum R∧Chg (fun k=>k=g) w w'∧NumSt w' g N m R:=by
 obtain ⟨hc,h⟩:=h
 cases R with
 | error er=>exact ⟨0,h.1,rfl,hc,h.2⟩
 | ok x=>exact ⟨x.1,h.1,rfl,hc,h.2⟩
theorem lvLoop_start {w W:World} {g gO f:Nat} {k n N m:Int} {R0:Except Int (Int × List Int)} (hb:LvBx w W g gO k n (.slice none 0 0)) (h:NumSt W g N m R0):LvLoop w W g gO k n N (.slice none 0 0) [] (lvPre f R0 m 0) 0:=by
 refine ⟨hb,KidsAt.nil _ _,?_,Nat.le_refl _⟩
 cases R0 with
 | error er=>exact h
 | ok x=>exact ⟨rfl,h⟩
theorem lvLoop_next {w5:World} {g f j:Nat} {N m m1:Int} {R0:Except Int (Int × List Int)} {l:List Lv} {l5:Lv} {r:List Int} (h:lvPre f R0 m j=.ok (l,r,m1)) (hp:RdSt w5 g N l5 (lvR f r m1)):LvSt w5 g N (lvPre f R0 m (j+1)) (l ++ [l5]):=by
 rw [lvPre_ok h]
 cases hl:lvR f r m1 with
 | error e=>rw [hl] at hp;exact hp
 | ok x=>rw [hl] at hp;exact ⟨by rw [hp.1],hp.2⟩
theorem lvLoop_same {w W:World} {g gO f j:Nat} {k n N m e:Int} {V:Value} {l:List Lv} {R0:Except Int (Int × List Int)} (h:LvLoop w W g gO k n N V l (lvPre f R0 m j) j) (he:lvPre f R0 m j=.error e):LvLoop w W g gO k n N V l (lvPre f R0 m (j+1)) (j+1):=
 ⟨h.bx,h.kids,by rw [lvPre_err he];have:=h.st;rw [he] at this;exact this,Nat.le_succ_of_le h.len⟩
theorem lvLoop_end {w W:World} {g gO f:Nat} {k N m:Int} {A:Option Addr} {L c:Nat} {l:List Lv} {xs r:List Int} {K:Nat} (hK:kindR 4 xs=.ok (k,r)) (hm:m<100) (hKK:K=lvKids k) {n:Int} (hn:n=okNum (lvNum k r))
  (h:LvLoop w W g gO k n N (.slice A L c) l (lvPre f (lvNum k r) (m+1) K) K) (hL:L=l.length) :
  LvRd w g N (lvR (f+1) xs m) (.returned (.agg #[.int .i64 k,.int .i64 n,.slice A L c])) (((W.setCell ⟨w.heap.size,0,none⟩ (.int .i64 k)).setCell ⟨w.heap.size,1,none⟩ (.int .i64 n)).setCell ⟨w.heap.size,2,none⟩ (.slice A L c)):=by
 obtain ⟨A',c',e,hl⟩:=h.kids.level
 injection e with e1 _ e2
 subst e1;subst e2
 have hs:=h.st
 subst hKK
 refine lvRd_fin h.bx hL ((hl k n).mono fun b hb _=>by omega) ?_
 rw [lvR_pre hK hm]
 cases hp:lvPre f (lvNum k r) (m+1) (lvKids k) with
 | error e=>rw [hp] at hs;exact hs
 | ok x =>
  obtain ⟨l',r1,m1⟩:=x
  rw [hp] at hs
  exact ⟨by rw [hs.1,hn],hs.2⟩

set_option maxHeartbeats 8000000 in
theorem level_step (f:Nat) (IH0:∀ (g:Nat) (xs:List Int) (N m d:Int) (w:World),1≤d→(f:Int)+d=33→0≤m→m≤100→RdOk w g xs N m→Calls Try.prog 119 #[.pointer (some ⟨g,0,none⟩),.int .i64 d] w (LvRd w g N (lvR f xs m)))
  (g:Nat) (xs r:List Int) (N m d k:Int) (w:World) (hd0:1≤d) (hd:(f:Int)+1+d=33) (hm0:0≤m) (hm1:m<100) (h:RdOk w g xs N m) (hK:kindR 4 xs=.ok (k,r)) :
  Calls Try.prog 119 #[.pointer (some ⟨g,0,none⟩),.int .i64 d] w (LvRd w g N (lvR (f+1) xs m)):=by
 have HK:=Ak hK
 have HR:=Ak h
 have HGL:=Ak h.lt
 have IH:=Ak IH0
 have hk:=(kind_put hK).2
 have hd1:d≤32:=by omega
 clear h hK IH0
 go_enter Try.func119,Try.ntmps119
 go_upto_region 2 with (go_at_call 86;go_must (refine (kind_calls g xs N m 4 _ (HR.out.below (below_alloc (Below.refl _ _) _)) (by decide) (by decide)).mono ?_;rintro e w2 ⟨hc,hm⟩;rw [HK.out] at hm;obtain ⟨rfl,hok⟩:=hm;have HBX:=Ak (lvBx_new (k:=k) HGL.out hc);have HOK:=Ak (RdOk.below hok (below_alloc (Below.refl _ _) (lvO k 0 (.slice none 0 0))));clear hc hok))
 obtain ⟨gO,hgO⟩:∃ gO,gO=w2.heap.size:=⟨_,rfl⟩
 rw [← hgO] at HBX ⊢
 obtain ⟨W3,hW3⟩:∃ W3,W3=w2.alloc (lvO k 0 (.slice none 0 0)):=⟨_,rfl⟩
 rw [← hW3] at HBX HOK ⊢
 clear hW3 hgO
 obtain ⟨A3,n3,c3',hg3,hs3⟩:=HOK.out
 obtain ⟨c0,c1,c2,c3,z0,z1,z2,z3⟩:=row4 hg3
 have HG3:=Ak hg3
 have HS3:=Ak hs3
 clear hg3 hs3
 go_upto_region 3 with (fail)
 have hmm0:0≤m+1:=by omega
 have hmm1:m+1≤100:=by omega
 obtain ⟨mm,hmm⟩:∃ mm,mm=m+1:=⟨_,rfl⟩
 rw [← hmm] at hmm0 hmm1 ⊢
 have HMM:=Ak hmm
 clear c0 c1 c2 c3 z0 z1 z2 z3 hmm
 have HG4:=Ak (rd4_2 (x:=.int .i64 mm) HG3.out)
 have HB4:=Ak (HBX.out.reader (chg_set W3 g 2 (.int .i64 mm)))
 have HS4:=Ak (HS3.out.chg (Nat.le_of_lt (blk_lt HG3.out)) (fun k e=>Nat.le_of_eq e.symm) (chg_set W3 g 2 (.int .i64 mm)))
 obtain ⟨W4,hW4⟩:∃ W4,W4=W3.setCell ⟨g,2,none⟩ (.int .i64 mm):=⟨_,rfl⟩
 rw [← hW4] at HG4 HB4 HS4 ⊢
 clear hW4 HBX HG3 HOK HS3
 obtain ⟨c0,c1,c2,c3,z0,z1,z2,z3⟩:=row4 HG4.out
 have hd':decide (32<d)=false:=decide_eq_false (by omega)
 have hm':decide (100<mm)=false:=decide_eq_false (by omega)
 go_upto_region 5 with (go_at_call 104;go_must (refine (fail_no g A3 n3 c3' N mm 2 _ HG4.out).mono ?_;rintro e w' ⟨rfl,hw⟩;subst hw))
 clear c0 c1 c2 c3 z0 z1 z2 z3
 have HOK:=Ak (show RdOk w' g r N mm from ⟨A3,n3,c3',HG4.out,HS4.out⟩)
 clear HG4 HS4
 obtain ⟨d0,d1,d2,y0,y1,y2⟩:=row3l HB4.out.out
 obtain ⟨K,hKK⟩:∃ K,K=lvKids k:=⟨_,rfl⟩
 have HKK:=Ak hKK
 obtain ⟨nn,hnn⟩:∃ nn,nn=okNum (lvNum k r):=⟨_,rfl⟩
 have HNN:=Ak hnn
 clear hnn
 go_upto_block 0 with (fail)
 go_cut [6] (fun u w5=>u=.int .i64 K∧Aside0 (LvBx w w5 g gO k nn (.slice none 0 0))∧Aside0 (NumSt w5 g N mm (lvNum k r)))
 case first =>
  by_cases k4:k=4
  ·have HR0:=Ak (show lvNum k r=.ok (0,r) by unfold lvNum;rw [if_pos k4])
   rw [show lvKids k=2 by unfold lvKids;rw [if_pos k4]] at hKK
   subst hKK
   have hk4:(k == 4)=true:=by simp [k4]
   have hnn0:nn=0:=by rw [HNN.out,HR0.out];rfl
   subst hnn0
   clear k4
   go_wp2
   go_meet
   case rel=>exact ⟨rfl,HB4,⟨by rw [HR0.out];exact HOK.out⟩⟩
  ·have HR0:=Ak (show lvNum k r=numR r by unfold lvNum;rw [if_neg k4])
   have hk4:(k == 4)=false:=by simp [k4]
   by_cases k3:k=3
   ·rw [show lvKids k=1 by unfold lvKids;rw [if_neg k4,if_pos k3]] at hKK
    subst hKK
    have hk3:(k == 3)=true:=by simp [k3]
    clear k4 k3
    go_wp2_with (go_at_call 88;go_must (refine (number_calls g r N mm _ HOK.out).mono ?_;rintro e w6 hp;obtain ⟨n6,rfl,hn6,hc,hst⟩:=NumPost.one hp;obtain rfl:n6=nn:=(by rw [hn6,HNN.out,HR0.out]);have HB6:=Ak (HB4.out.reader hc);have HST:=Ak (hst.chg (S:=fun k=>k=gO) (fun k e=>by have:=HB6.out.far;have:=HB6.out.glt;omega) (chg_set _ gO 1 (.int .i64 n6)));clear hn6 hc hst hp;obtain ⟨p0,p1,p2,q0,q1,q2⟩:=row3l HB6.out.out))
    go_meet
    case rel=>exact ⟨rfl,⟨HB6.out.num⟩,⟨by rw [HR0.out];exact HST.out⟩⟩
   ·rw [show lvKids k=0 by unfold lvKids;rw [if_neg k4,if_neg k3]] at hKK
    subst hKK
    have hk3:(k == 3)=false:=by simp [k3]
    clear k4 k3
    go_wp2_with (go_at_call 88;go_must (refine (number_calls g r N mm _ HOK.out).mono ?_;rintro e w6 hp;obtain ⟨n6,rfl,hn6,hc,hst⟩:=NumPost.one hp;obtain rfl:n6=nn:=(by rw [hn6,HNN.out,HR0.out]);have HB6:=Ak (HB4.out.reader hc);have HST:=Ak (hst.chg (S:=fun k=>k=gO) (fun k e=>by have:=HB6.out.far;have:=HB6.out.glt;omega) (chg_set _ gO 1 (.int .i64 n6)));clear hn6 hc hst hp;obtain ⟨p0,p1,p2,q0,q1,q2⟩:=row3l HB6.out.out))
    go_meet
    case rel=>exact ⟨rfl,⟨HB6.out.num⟩,⟨by rw [HR0.out];exact HST.out⟩⟩
 case rest =>
  obtain ⟨rfl,HB5,HST5⟩:=hcut
  clear d0 d1 d2 y0 y1 y2 HB4 HOK hd' hm'
  have hK2:K≤2:=by rw [hKK];unfold lvKids;split;exact Nat.le_refl _;split <;> decide
  clear hKK
  go_wp2
  go_loopw [39] (fun i wr=>∃ (j:Nat) (V:Value) (l:List Lv),i=.int .i64 j∧j≤K∧Aside0 (LvLoop w wr g gO k nn N V l (lvPre f (lvNum k r) mm j) j)) (fun i _=>K - (intOf i).toNat)
  case atStart=>exact ⟨0,_,_,rfl,Nat.zero_le _,⟨lvLoop_start HB5.out HST5.out⟩⟩
  case round =>
   obtain ⟨j,V,l,rfl,hj,HL⟩:=hrel
   by_cases hlt:j<K
   ·cases hP:lvPre f (lvNum k r) mm j with
    | error e =>
     have hst:=HL.out.st
     rw [hP] at hst
     obtain ⟨A6,n6,c6,N6,m6,hg6⟩:=hst
     have he':(e == 0)=false:=by simp [lvPre_ne hP]
     obtain ⟨b0,b1,b2,b3,-,-,-,-⟩:=row4 hg6
     have HN:=Ak (lvLoop_same HL.out hP)
     clear hg6 hP
     go_wp2
     go_roundw
     case rel=>exact ⟨j+1,V,l,by go_num,by omega,HN⟩
     case measure=>(simp [intOf];try omega)
    | ok x =>
     obtain ⟨l',r1,m1⟩:=x
     have hst:=HL.out.st
     rw [hP] at hst
     obtain ⟨-,hok⟩:=hst
     have HOK:=Ak hok
     have hgr:=lvPre_grow hP hmm0 hmm1
     have HP:=Ak (show lvPre f (lvNum k r) mm j=.ok (l,r1,m1) by rw [hP];have:=HL.out.st;rw [hP] at this;rw [this.1])
     have hlen:=HL.out.len
     obtain ⟨A6,n6,c6,hg6,-⟩:=hok
     obtain ⟨b0,b1,b2,b3,-,-,-,-⟩:=row4 hg6
     have hcv:=(row3l HL.out.bx.out).2.2.1
     have hcz:=(row3l HL.out.bx.out).2.2.2.2.2
     clear hP hg6 b0 b1 b2
     go_upto_block 5 with (fail)
     go_cut [] (fun w5=>∃ v5 l5,Aside0 (LvLoop w w5 g gO k nn N v5 l5 (lvPre f (lvNum k r) mm (j+1)) (j+1)))
     case first =>
      go_upto_region 15 with (fail)
      have hw9:IntKind.i64.wrap (d+1)=d+1:=IntWalk.i64_in _ (by omega)
      go_region_law (first
       | (go_simp;go_at_call 119;(try rw [hw9]);refine (IH.out g r1 N m1 (d+1) _ (by omega) (by omega) hgr.1 hgr.2 (HOK.out.below (by repeat' first | exact Below.refl _ _ | apply below_drew | apply below_alloc))).mono ?_;rintro e w5 ⟨A5,c5,l5,rfl,hl5,hc5,hm5⟩;have ST5:=Ak (lin_in HL.out.bx HL.out.kids (by repeat' first | exact Below.refl _ _ | apply below_drew | apply below_alloc) hc5 hl5);have HST5:=Ak (lvLoop_next HP.out hm5);have hcv5:=ST5.out.cell;have hcz5:=blk_frozen ST5.out.bx.out 2;have hcw5:=ST5.out.cell2 (.cells #[.int .i64 l5.kind,.int .i64 l5.num,.slice A5 l5.kids.length c5] 24 (0,0));clear hl5 hc5 hm5;simp only [lvV])
       | (first
         | (have STA:=Ak ST5.out;obtain ⟨cells,fA,fc,hown,hkids⟩:=STA.out.kids;refine step_append_cells (w0:=w5) (W:=w5) (gO+1) (by simp [Region.wanted]) (.tmp 47) (.tmp 52) 22 24 _ 3 40 rfl Try.underlying22 infoLv rfl (by decide) (by decide) V l.length cells [.int .i64 l5.kind,.int .i64 l5.num,.slice A5 l5.kids.length c5] rfl rfl rfl (by simp [Value.oneCell']) hown (Below.refl _ _) STA.out.size (by omega) ?_;intro v6 w6 ho6 _ hg6 hat6;obtain ⟨A6,c6,rfl⟩:=own_slice ho6;have ST6:=Ak (lin_push STA.out hown hkids ho6 hg6 hat6);have HSTX:=Ak (HST5.out.chg (S:=fun _=>False) (fun _ h=>h.elim) (Chg.of_below (by repeat' first | exact Below.refl _ _ | apply below_drew)):LvSt w5 g N (lvPre f (lvNum k r) mm (j+1)) (l ++ [l5]));have hcv6:=ST6.out.cell;have hcz6:=blk_frozen ST6.out.bx.out 2;clear hown hkids ho6 hg6 hat6 STA)
         | (have STA:=Ak ST5.out.drew;obtain ⟨cells,fA,fc,hown,hkids⟩:=STA.out.kids;refine step_append_cells (w0:=w5.drew) (W:=w5.drew) (gO+1) (by simp [Region.wanted]) (.tmp 47) (.tmp 52) 22 24 _ 3 40 rfl Try.underlying22 infoLv rfl (by decide) (by decide) V l.length cells [.int .i64 l5.kind,.int .i64 l5.num,.slice A5 l5.kids.length c5] rfl rfl rfl (by simp [Value.oneCell']) hown (Below.refl _ _) STA.out.size (by omega) ?_;intro v6 w6 ho6 _ hg6 hat6;obtain ⟨A6,c6,rfl⟩:=own_slice ho6;have ST6:=Ak (lin_push STA.out hown hkids ho6 hg6 hat6);have HSTX:=Ak (HST5.out.chg (S:=fun _=>False) (fun _ h=>h.elim) (Chg.of_below (by repeat' first | exact Below.refl _ _ | apply below_drew)):LvSt w5.drew g N (lvPre f (lvNum k r) mm (j+1)) (l ++ [l5]));have hcv6:=ST6.out.cell;have hcz6:=blk_frozen ST6.out.bx.out 2;clear hown hkids ho6 hg6 hat6 STA)
         | (trace_state;fail)))
      all_goals (go_wp2;go_meet)
      all_goals (exact lout_fin ST6.out HSTX.out (by simp only [List.length_append,List.length_singleton];omega))
     case rest =>
      clear HL hcv hcz b3 HOK HP hlen
      obtain ⟨V2,l2,HL⟩:=hcut
      go_wp2
      go_roundw
      case rel=>exact ⟨j+1,V2,l2,by go_num,by omega,HL⟩
      case measure=>(simp [intOf];try omega)
   ·obtain rfl:j=K:=by omega
    have hlt':decide ((j:Int)<j)=false:=by simp
    obtain ⟨A9,c9,rfl,-⟩:=HL.out.kids.level
    obtain ⟨L9,hL9⟩:∃ L9,L9=l.length:=⟨_,rfl⟩
    rw [← hL9] at HL
    have HL9:=Ak hL9
    obtain ⟨d0,d1,d2,y0,y1,y2⟩:=row3l HL.out.bx.out
    obtain ⟨e0,e1,e2,x0,x1,x2⟩:=row3l HL.out.bx.res
    clear hL9
    go_wp2
    refine bodyPost_ret (results_c rfl _ _ w.heap.size 24 #[.int .i64 k,.int .i64 nn,.slice A9 L9 c9] (0,0) _ rfl (HL.out.bx.set _ _ _) Try.underlying24 rfl (by kernel_rfl)) rfl ?_
    have HLX:=HL.out
    rw [HMM.out] at HLX
    exact lvLoop_end HK.out (by omega) HKK.out HNN.out HLX HL9.out
theorem level_calls:∀ (f:Nat) (g:Nat) (xs:List Int) (N m d:Int) (w:World),1≤d→(f:Int)+d=33→0≤m→m≤100→RdOk w g xs N m→Calls Try.prog 119 #[.pointer (some ⟨g,0,none⟩),.int .i64 d] w (LvRd w g N (lvR f xs m))
 | 0,g,xs,N,m,d,w,_,hd,h0,h1,h=>by
  rw [lvR]
  cases hK:kindR 4 xs with
  | error er=>exact level_bad g xs N m d er w h hK
  | ok x =>
   obtain ⟨k,r⟩:=x
   exact level_deep g xs r N m d k w h hK h0 h1 (.inl (by omega))
 | f+1,g,xs,N,m,d,w,hd1,hd,h0,h1,h=>by
  cases hK:kindR 4 xs with
  | error er =>
   rw [lvR,hK]
   exact level_bad g xs N m d er w h hK
  | ok x =>
   obtain ⟨k,r⟩:=x
   by_cases hm:100<m+1
   ·rw [lvR,hK]
    simp only []
    rw [if_pos hm]
    exact level_deep g xs r N m d k w h hK h0 h1 (.inr hm)
   ·exact level_step f (level_calls f) g xs r N m d k w hd1 (by omega) h0 (by omega) h hK
end Go.Proofs.Ytcgkeolgflphiaa

namespace Go.Proofs.Ytcgkeolgflphiaa
open Go.RowKit Go.Proofs.YtcgkeolgflphiaaW.PrintWords Go.RegionInvYtcgkeolgflphiaa

theorem chg_of_base {B:Nat} {w w':World} (h:Below B w w'):Chg (fun k=>B≤k) w w':=⟨h.os,h.tape,h.output,h.size,fun i _ hn=>h.block i (by omega)⟩
structure El (P α:Type) where
 sz:Nat
 ty:TypeId
 cells:P→α→List Value
 mem:World→(Nat→Prop)→P→α→Prop
 len:∀ p x,(cells p x).length=sz
 same:∀ {w w':World} {S:Nat→Prop} {p:P} {x:α},mem w S p x→(∀ k,S k→k<w.heap.size→w'.heap[k]?=w.heap[k]?)→mem w' S p x
 mono:∀ {w:World} {S S':Nat→Prop} {p:P} {x:α},mem w S p x→(∀ k,S k→k<w.heap.size→S' k)→mem w S' p x
def RowG {P α:Type} (E:El P α) (w:World) (lo:Nat) (V:Value) (xs:List α):Prop:=
 ∃ (cs:List Value) (q:Nat→P),w.ownsRow lo E.ty E.sz V xs.length cs∧∀ (i:Nat) (x:α),xs[i]?=some x→(∀ (j:Nat) (v:Value),(E.cells (q i) x)[j]?=some v→cs[i * E.sz+j]?=some v)∧E.mem w (fun b=>lo≤b∧V.ownBlock≠some b) (q i) x
theorem RowG.nil {P α:Type} [Inhabited P] (E:El P α) (w:World) (lo:Nat):RowG E w lo (.slice none 0 0) []:=⟨[],fun _=>default,own_nil _ _ _ _,fun i x h=>by simp at h⟩
theorem RowG.keep {P α:Type} {E:El P α} {w w':World} {lo:Nat} {V:Value} {xs:List α} {S:Nat→Prop} (h:RowG E w lo V xs) (hc:Chg S w w') (hS:∀ k,S k→k<lo):RowG E w' lo V xs:=by
 obtain ⟨cs,q,ho,hk⟩:=h
 exact ⟨cs,q,ownsRow_same ho fun k hk=>hc.block k (own_lt ho k hk) (fun hs=>by have:=own_base ho k hk;have:=hS k hs;omega),fun i x hx=>⟨(hk i x hx).1,E.same (hk i x hx).2 fun k hs hz=>hc.block k hz (fun h=>by have:=hS k h;omega)⟩⟩
theorem RowG.later {P α:Type} {E:El P α} {w w':World} {lo:Nat} {V:Value} {xs:List α} (h:RowG E w lo V xs) (hb:Below w.heap.size w w'):RowG E w' lo V xs:=h.keep (S:=fun _=>False) (Chg.of_below hb) (fun _ h=>h.elim)
theorem RowG.push {P α:Type} {E:El P α} {w w1:World} {lo:Nat} {V v1:Value} {xs:List α} {x:α} {p:P} {cs:List Value} {q:Nat→P} (ho:w.ownsRow lo E.ty E.sz V xs.length cs)
  (hk:∀ (i:Nat) (x:α),xs[i]?=some x→(∀ (j:Nat) (v:Value),(E.cells (q i) x)[j]?=some v→cs[i * E.sz+j]?=some v)∧E.mem w (fun b=>lo≤b∧V.ownBlock≠some b) (q i) x)
  (hx:E.mem w (fun b=>lo≤b∧V.ownBlock≠some b) p x) (ho1:w1.ownsRow lo E.ty E.sz v1 (xs.length+1) (cs ++ E.cells p x))
  (hg:w.grownBy w1 V.ownBlock) (hat:v1.ownBlock=V.ownBlock∨∃ b,v1.ownBlock=some b∧w.heap.size≤b):RowG E w1 lo v1 (xs ++ [x]):=by
 have keep:∀ {p:P} {y:α},E.mem w (fun b=>lo≤b∧V.ownBlock≠some b) p y→E.mem w1 (fun b=>lo≤b∧v1.ownBlock≠some b) p y:=by
  intro p y h
  have h1:E.mem w (fun b=>(lo≤b∧V.ownBlock≠some b)∧v1.ownBlock≠some b) p y:=E.mono h fun k hk hz=>⟨hk,by
   rcases hat with e | ⟨b,e,hb⟩
   ·rw [e];exact hk.2
   ·rw [e];intro h;injection h with h;omega⟩
  exact E.mono (E.same h1 fun k hs hz=>hg.block k hz fun e=>hs.1.2 e.symm) fun k hs _=>⟨hs.1.1,hs.2⟩
 have hl:=own_len ho
 refine ⟨_,fun i=>if i=xs.length then p else q i,by simpa using ho1,fun i y hy=>?_⟩
 rcases Nat.lt_or_ge i xs.length with hi | hi
 ·rw [List.getElem?_append_left hi] at hy
  obtain ⟨h1,h2⟩:=hk i y hy
  simp only [if_neg (show ¬ i=xs.length by omega)]
  refine ⟨fun j v hv=>?_,keep h2⟩
  have hj:j<E.sz:=by have:=(List.getElem?_eq_some_iff.1 hv).1;rwa [E.len] at this
  have hij:i * E.sz+j<cs.length:=by
   rw [hl]
   have:(i+1) * E.sz≤xs.length * E.sz:=Nat.mul_le_mul_right _ hi
   rw [Nat.add_mul,Nat.one_mul] at this
   omega
  rw [List.getElem?_append_left hij]
  exact h1 j v hv
 ·rw [List.getElem?_append_right hi] at hy
  have hi2:i=xs.length:=by
   cases e:i - xs.length with
   | zero=>omega
   | succ j=>rw [e] at hy;simp at hy
  subst hi2
  obtain rfl:x=y:=by simpa using hy
  simp only [↓reduceIte]
  refine ⟨fun j v hv=>?_,keep hx⟩
  rw [List.getElem?_append_right (by omega),hl,show xs.length * E.sz+j - xs.length * E.sz=j by omega]
  exact hv
theorem El.beside {P α:Type} (E:El P α) {w w1:World} {lo:Nat} {V:Value} {xs:List α} {p:P} {x:α} (hr:RowG E w lo V xs) (hlo:lo≤w.heap.size) (h:E.mem w1 (fun b=>w.heap.size≤b) p x):E.mem w1 (fun b=>lo≤b∧V.ownBlock≠some b) p x:=by
 obtain ⟨cs,q,ho,-⟩:=hr
 exact E.mono h fun k hk _=>⟨by omega,fun e=>by have:=own_lt ho k e;omega⟩
def lvC (q:Option Addr × Nat) (l:Lv):List Value:=[.int .i64 l.kind,.int .i64 l.num,.slice q.1 l.kids.length q.2]
def eLv:El (Option Addr × Nat) Lv:=⟨3,24,lvC,fun w S q l=>LvS w S q.1 q.2 l,fun _ _=>rfl,fun h hs=>LvS.same h hs,fun h hs=>LvS.mono h hs⟩
def eTm:El Pl Tm:=⟨8,27,tmC,fun w S q t=>TmS w S q t,fun _ _=>rfl,fun h hs=>TmS.same h hs,fun h hs=>TmS.mono h hs⟩
def eCt:El Pl Ct:=⟨9,63,ctC,fun w S q c=>TmS w S q c.ty∧c.nm.size≤140737488355328,fun _ _=>rfl,fun h hs=>⟨h.1.same hs,h.2⟩,fun h hs=>⟨h.1.mono hs,h.2⟩⟩
def eDc:El DPl Dc:=⟨21,30,dcC,fun w S q d=>DcS w S q d,fun _ _=>rfl,fun h hs=>DcS.same h hs,fun h hs=>DcS.mono h hs⟩
instance:Inhabited DPl:=⟨⟨default,default,none,0,fun _=>default⟩⟩
def TookP {α:Type} (x:α) (cnt er:Int) (ys:List Int):Except Int (α × List Int)→Prop
 | .ok (x',r)=>x=x'∧er=0∧∃ u:Nat,cnt=(u:Int)∧1≤u∧u≤ys.length∧r=ys.drop u
 | .error k=>er=k∧k≠0
def TakeP {P α:Type} (E:El P α) (val:P→α→Value) (R:Except Int (α × List Int)) (ys:List Int) (w:World) (e:Ending) (w':World):Prop:=
 ∃ p x cnt er,e=.returned (.tuple #[val p x,.int .i64 cnt,.int .i64 er])∧E.mem w' (fun b=>w.heap.size≤b) p x∧Below w.heap.size w w'∧TookP x cnt er ys R
theorem suffix_drop {a r ys:List Int} (h:ys=a ++ r):r=ys.drop (ys.length - r.length):=by
 subst h
 rw [List.length_append,Nat.add_sub_cancel,List.drop_left]
def TookL {α:Type} (V:Value) (l:List α) (cnt er:Int) (ys:List Int):Except Int (List α × List Int)→Prop
 | .ok (l',r)=>l=l'∧er=0∧∃ u:Nat,cnt=(u:Int)∧1≤u∧u≤ys.length∧r=ys.drop u
 | .error k=>V=.slice none 0 0∧l=[]∧cnt=0∧er=k∧k≠0
def TakeLP {P α:Type} (E:El P α) (R:Except Int (List α × List Int)) (ys:List Int) (w:World) (e:Ending) (w':World):Prop:=
 ∃ V l cnt er,e=.returned (.tuple #[V,.int .i64 cnt,.int .i64 er])∧RowG E w' w.heap.size V l∧Below w.heap.size w w'∧TookL V l cnt er ys R
theorem takeLP_err {P α:Type} [Inhabited P] {E:El P α} {R:Except Int (List α × List Int)} {ys:List Int} {w w':World} {k:Int} (h:R=.error k) (hk:k≠0) (hb:Below w.heap.size w w'):TakeLP E R ys w (.returned (.tuple #[.slice none 0 0,.int .i64 0,.int .i64 k])) w':=by
 subst h
 exact ⟨_,[],0,k,rfl,RowG.nil _ _ _,hb,rfl,rfl,rfl,rfl,hk⟩
def moreR {α:Type} (acc:List α):Except Int (List α × List Int)→Except Int (List α × List Int)
 | .error e=>.error e
 | .ok (l,r)=>.ok (acc ++ l,r)
theorem listR_short {α:Type} {most:Int} {f:List Int→Except Int (α × List Int)} {xs:List Int} {e:Int} (h:takeN xs=(0,0,e)) (he:e≠0):listR most f xs=.error e:=by unfold listR;rw [h];simp [he]
theorem listR_many {α:Type} {most:Int} {f:List Int→Except Int (α × List Int)} {xs:List Int} {m k:Nat} (h:takeN xs=((m:Int),(k:Int),0)) (hm:most<m):listR most f xs=.error 18:=by unfold listR;rw [h];simp [hm]
theorem listR_ok {α:Type} {most:Int} {f:List Int→Except Int (α × List Int)} {xs:List Int} {m k:Nat} (h:takeN xs=((m:Int),(k:Int),0)) (hm:¬ most<m):listR most f xs=moreR [] (manyR f m (xs.drop k)):=by
 unfold listR;rw [h];simp only [ne_eq,not_true_eq_false,if_false,if_neg hm,Int.toNat_natCast]
 cases manyR f m (xs.drop k) with
 | error e=>rfl
 | ok x=>rfl
theorem moreR_next {α:Type} {f:List Int→Except Int (α × List Int)} {acc:List α} {n:Nat} {ys r:List Int} {x:α} (h:f ys=.ok (x,r)):moreR acc (manyR f (n+1) ys)=moreR (acc ++ [x]) (manyR f n r):=by
 rw [manyR,h]
 simp only []
 cases manyR f n r with
 | error e=>rfl
 | ok y=>simp [moreR]
theorem moreR_bad {α:Type} {f:List Int→Except Int (α × List Int)} {acc:List α} {n:Nat} {ys:List Int} {e:Int} (h:f ys=.error e):moreR acc (manyR f (n+1) ys)=.error e:=by
 rw [manyR,h];rfl
theorem moreR_end {α:Type} {f:List Int→Except Int (α × List Int)} {acc:List α} {ys:List Int}:moreR acc (manyR f 0 ys)=.ok (acc,ys):=by
 rw [manyR,moreR,List.append_nil]
end Go.Proofs.Ytcgkeolgflphiaa

namespace Go.Proofs.Ytcgkeolgflphiaa
open Go.RowKit Go.Proofs.YtcgkeolgflphiaaW.PrintWords Go.RegionInvYtcgkeolgflphiaa

theorem RdOk.setm {w:World} {g:Nat} {xs:List Int} {N m:Int} (h:RdOk w g xs N m) (m':Int):RdOk (w.setCell ⟨g,2,none⟩ (.int .i64 m')) g xs N m':=by
 obtain ⟨A,n,c,hb,hs⟩:=h
 exact ⟨A,n,c,rd4_2 hb,hs.chg (Nat.le_of_lt (blk_lt hb)) (fun k e=>Nat.le_of_eq e.symm) (chg_set _ _ _ _)⟩
theorem RdOk.setn {w:World} {g:Nat} {xs:List Int} {N m:Int} (h:RdOk w g xs N m) (n':Int):RdOk (w.setCell ⟨g,1,none⟩ (.int .i64 n')) g xs n' m:=by
 obtain ⟨A,n,c,hb,hs⟩:=h
 exact ⟨A,n,c,rd4_1 hb,hs.chg (Nat.le_of_lt (blk_lt hb)) (fun k e=>Nat.le_of_eq e.symm) (chg_set _ _ _ _)⟩
theorem RdBad.setn {w:World} {g:Nat} {e:Int} (h:RdBad w g e) (n':Int):RdBad (w.setCell ⟨g,1,none⟩ (.int .i64 n')) g e:=by
 obtain ⟨A,n,c,N,m,hb⟩:=h
 exact ⟨A,n,c,n',m,rd4_1 hb⟩
theorem lvRd_out {w W0 w5:World} {g:Nat} {N:Int} {R:Except Int (Lv × List Int × Int)} {A:Option Addr} {c:Nat} {l:Lv} (hg:g<w.heap.size) (hz:W0.heap.size=w.heap.size+1) (h0:Chg (fun k=>k=g) w W0) (h1:LvS w5 (fun b=>W0.heap.size≤b) A c l) (h2:Chg (fun k=>k=g) W0 w5)
  (h3:RdSt w5 g N l R) (a b d:Value):LvRd w g N R (.returned (.agg #[.int .i64 l.kind,.int .i64 l.num,.slice A l.kids.length c])) (((w5.setCell ⟨w.heap.size,0,none⟩ a).setCell ⟨w.heap.size,1,none⟩ b).setCell ⟨w.heap.size,2,none⟩ d):=by
 have hch:=chg_set3 w5 w.heap.size a b d
 have h02:=chg_trans h0 h2
 have hs:=h2.size
 refine ⟨A,c,l,rfl,(h1.same fun k hk _=>hch.block k (by omega) (by omega)).mono fun k hk _=>by omega,⟨hch.os.trans h02.os,hch.tape.trans h02.tape,hch.output.trans h02.output,Nat.le_trans h02.size hch.size,fun i hi hs=>?_⟩,?_⟩
 ·rw [hch.block i (Nat.lt_of_lt_of_le hi h02.size) (by omega),h02.block i hi hs]
 ·exact h3.chg (S:=fun k=>k=w.heap.size) (fun k e=>by omega) hch
set_option maxHeartbeats 4000000 in
theorem lev1_calls (g:Nat) (xs:List Int) (N m:Int) (w:World) (h:RdOk w g xs N m) :
  Calls Try.prog 121 #[.pointer (some ⟨g,0,none⟩)] w (LvRd w g N (lvR 32 xs 0)):=by
 have HGL:=Ak h.lt
 have HR0:=Ak (h.below (below_alloc (Below.refl _ _) (lvO 0 0 (.slice none 0 0))))
 have HX0:=Ak (blk_new w (lvO 0 0 (.slice none 0 0)))
 have HB0:=Ak (below_alloc (Below.refl w.heap.size w) (lvO 0 0 (.slice none 0 0)))
 have HZ0:=Ak (show (w.alloc (lvO 0 0 (.slice none 0 0))).heap.size=w.heap.size+1 by simp)
 clear h
 go_enter Try.func121,Try.ntmps121
 go_upto_region 1 with (fail)
 obtain ⟨W0,hW0⟩:∃ W0,W0=w.alloc (lvO 0 0 (.slice none 0 0)):=⟨_,rfl⟩
 rw [← hW0] at HR0 HX0 HB0 HZ0 ⊢
 clear hW0
 obtain ⟨A,n,c,hg,-⟩:=HR0.out
 obtain ⟨c0,c1,c2,c3,z0,z1,z2,z3⟩:=row4 hg
 clear hg
 go_upto_region 2 with (fail)
 have HR1:=Ak (HR0.out.setm 0)
 have HX1:=Ak (((chg_set W0 g 2 (.int .i64 0)).block _ (blk_lt HX0.out) (by have:=HGL.out;omega)).trans HX0.out)
 have HC1:=Ak (show Chg (fun k=>k=g) w (W0.setCell ⟨g,2,none⟩ (.int .i64 0)) from chg_trans (Chg.of_below HB0.out) (chg_set _ _ _ _))
 have HZ1:=Ak (show (W0.setCell ⟨g,2,none⟩ (.int .i64 0)).heap.size=w.heap.size+1 by rw [World.size_setCell];exact HZ0.out)
 obtain ⟨W1,hW1⟩:∃ W1,W1=W0.setCell ⟨g,2,none⟩ (.int .i64 0):=⟨_,rfl⟩
 rw [← hW1] at HR1 HX1 HC1 HZ1 ⊢
 clear hW1 c0 c1 c2 c3 z0 z1 z2 z3 HR0 HX0 HB0 HZ0
 go_wp2_with (go_at_call 119;go_must (refine (level_calls 32 g xs N 0 1 _ (by decide) (by decide) (by decide) (by decide) HR1.out).mono ?_;rintro e w5 ⟨A5,c5,l5,rfl,hl5,hc5,hm5⟩;have HX5:=Ak ((hc5.block _ (blk_lt HX1.out) (by have:=HGL.out;omega)).trans HX1.out);have HL5:=Ak hl5;have HC5:=Ak hc5;have HM5:=Ak hm5;clear hl5 hc5 hm5;obtain ⟨e0,e1,e2,x0,x1,x2⟩:=row3l HX5.out;simp only [lvV]))
 refine bodyPost_ret (results_c rfl _ _ w.heap.size 24 #[.int .i64 l5.kind,.int .i64 l5.num,.slice A5 l5.kids.length c5] (0,0) _ rfl (set3 HX5.out) Try.underlying24 rfl (by kernel_rfl)) rfl ?_
 exact lvRd_out HGL.out HZ1.out HC1.out HL5.out HC5.out HM5.out _ _ _
def lvVal (q:Option Addr × Nat) (l:Lv):Value:=lvV q.1 q.2 l
theorem bs_new {w:World} {A:Option Addr} {n c:Nat} {xs:List Int} {O1:Obj} {N m:Int} (h:Bs w w.heap.size A n c xs):RdOk ((w.alloc O1).alloc (rdB A n c N m 0)) (w.heap.size+1) xs N m:=by
 refine ⟨A,n,c,?_,((h.chg (S:=fun _=>False) (Nat.le_refl _) (fun _ h=>h.elim) (Chg.of_below (below_alloc (below_alloc (Below.refl _ _) _) _))).mono (Nat.le_succ _))⟩
 have:=blk_new (w.alloc O1) (rdB A n c N m 0)
 simpa using this
def BoxSt {α:Type} (x:α) (n:Nat) (er:Int):Except Int (α × List Int × Int)→Prop
 | .ok (t,r,_)=>x=t∧er=0∧r.length=n
 | .error k=>er=k
theorem rd_box {w5:World} {g:Nat} {N:Int} {α:Type} {x:α} {R:Except Int (α × List Int × Int)} (h:RdSt w5 g N x R):∃ A n c N' m er,w5.heap[g]?=some (rdB A n c N' m er)∧BoxSt x n er R:=by
 cases R with
 | error k =>
  obtain ⟨A,n,c,N',m,hb⟩:=h
  exact ⟨A,n,c,N',m,k,hb,rfl⟩
 | ok y =>
  obtain ⟨hx,A,n,c,hb,hs⟩:=h
  exact ⟨A,n,c,N,y.2.2,0,hb,hx,rfl,hs.reads.1⟩
theorem took_of {α:Type} {x:α} {b:α→List Int} {n n6:Nat} {er:Int} {xs:List Int} {R:Except Int (α × List Int × Int)} {R2:Except Int (α × List Int)} (h1:∀ k,R=.error k→R2=.error k∧k≠0) (h2:∀ t r m,R=.ok (t,r,m)→R2=.ok (t,r)∧xs=b t ++ r∧1≤(b t).length) (hn:xs.length=n) (hl:n≤140737488355000) (h:BoxSt x n6 er R):TookP x (IntKind.i64.wrap ((n:Int) - n6)) er xs R2:=by
 cases R with
 | error k =>
  obtain ⟨e1,e2⟩:=h1 k rfl
  rw [e1]
  exact ⟨h,e2⟩
 | ok y =>
  obtain ⟨t,r,m⟩:=y
  obtain ⟨e1,e2,e3⟩:=h2 t r m rfl
  obtain ⟨hx,he,hr⟩:=h
  rw [e1]
  have hlen:=congrArg List.length e2
  rw [List.length_append] at hlen
  refine ⟨hx,he,n - n6,?_,by omega,by omega,?_⟩
  ·rw [IntWalk.i64_in _ (by omega)];omega
  ·rw [← hr,← hn];exact suffix_drop e2
theorem lvB_pos1 (l:Lv):1≤(lvB l).length:=by
 obtain ⟨k,n,ks⟩:=l
 rw [lvB];simp only [List.length_append,List.length_cons,List.length_nil];omega
theorem lev_took {x:Lv} {n n6:Nat} {er:Int} {xs:List Int} (hB:Bytes xs) (hn:xs.length=n) (hl:n≤140737488355000) (h:BoxSt x n6 er (lvR 32 xs 0)):TookP x (IntKind.i64.wrap ((n:Int) - n6)) er xs (lev1 xs):=
 took_of (b:=lvB) (fun k hk=>⟨by unfold lev1;rw [hk],lv_err 32 hk⟩) (fun t r m hk=>⟨by unfold lev1;rw [hk],lv_put 32 hB hk,lvB_pos1 t⟩) hn hl h
theorem close_mem {P α:Type} (E:El P α) {w W1 W6 w7:World} {p:P} {x:α} (h:E.mem W6 (fun b=>W1.heap.size≤b) p x) (hz:W1.heap.size=w.heap.size+2) (h7:Chg (fun k=>k=w.heap.size) W6 w7):E.mem w7 (fun b=>w.heap.size≤b) p x:=
 E.mono (E.same h fun k hk hz=>h7.block k hz (by omega)) fun k hk _=>by omega
theorem close_below {w W1 W6 w7:World} (h1:Below w.heap.size w W1) (hz:W1.heap.size=w.heap.size+2) (h6:Chg (fun k=>k=w.heap.size+1) W1 W6) (h7:Chg (fun k=>k=w.heap.size) W6 w7):Below w.heap.size w w7:=
 Chg.trans_below (Chg.trans_below h1 h6 (fun k e=>by omega) (by omega)) h7 (fun k e=>by omega) (by have:=h6.size;omega)
set_option maxHeartbeats 4000000 in
theorem listLv_calls (gf:Nat) (A:Option Addr) (n c:Nat) (xs:List Int) (w:World) (h:Bs w w.heap.size A n c xs) (hf:w.heap[gf]?=some (.cells #[.func (.func 121) #[] #[]] 143 (0,0))) :
  Calls Try.prog 128 #[.slice A n c,.pointer (some ⟨gf,0,none⟩)] w (TakeP eLv lvVal (lev1 xs) xs w):=by
 have HS:=Ak h
 have HR1:=Ak (bs_new (O1:=lvO 0 0 (.slice none 0 0)) (N:=0) (m:=0) h)
 have hb1:=below_alloc (below_alloc (Below.refl w.heap.size w) (lvO 0 0 (.slice none 0 0))) (rdB A n c 0 0 0)
 have HF1:=Ak (blk_below hf hb1)
 have HX1:=Ak (blk_alloc (blk_new w (lvO 0 0 (.slice none 0 0))) (rdB A n c 0 0 0))
 have HB1:=Ak hb1
 have HZ1:=Ak (show ((w.alloc (lvO 0 0 (.slice none 0 0))).alloc (rdB A n c 0 0 0)).heap.size=w.heap.size+2 by simp)
 clear h hf hb1
 go_enter Try.func128,Try.ntmps128
 go_upto_region 2 with (fail)
 obtain ⟨W1,hW1⟩:∃ W1,W1=(w.alloc (lvO 0 0 (.slice none 0 0))).alloc (rdB A n c 0 0 0):=⟨_,rfl⟩
 rw [← hW1] at HR1 HF1 HX1 HB1 HZ1 ⊢
 clear hW1
 have f0:W1.cell? ⟨gf,0,none⟩=some (.func (.func 121) #[] #[]):=by rw [cell_of_row _ _ _ _ _ _ HF1.out];rfl
 go_upto_region 3 with (go_at_call 121;go_must (refine (lev1_calls (w.heap.size+1) xs 0 0 _ HR1.out).mono ?_;rintro e w5 ⟨A5,c5,l5,rfl,hl5,hc5,hm5⟩;have HX5:=Ak ((hc5.block _ (blk_lt HX1.out) (by omega)).trans HX1.out);have HL5:=Ak hl5;have HC5:=Ak hc5;have HM5:=Ak (rd_box hm5);clear hl5 hc5 hm5;simp only [lvV]))
 obtain ⟨A6,n6,c6,N6,m6,er,hg6,hsem⟩:=HM5.out
 have HG6:=Ak (blk_alloc hg6 (lvO l5.kind l5.num (.slice A5 l5.kids.length c5)))
 have HSEM:=Ak hsem
 have HX6:=Ak (blk_alloc HX5.out (lvO l5.kind l5.num (.slice A5 l5.kids.length c5)))
 have HY6:=Ak (blk_new w5 (lvO l5.kind l5.num (.slice A5 l5.kids.length c5)))
 have HC6:=Ak (chg_trans HC5.out (Chg.of_below (below_alloc (Below.refl _ _) (lvO l5.kind l5.num (.slice A5 l5.kids.length c5)))))
 have HL6:=Ak (HL5.out.later (below_alloc (Below.refl _ _) (lvO l5.kind l5.num (.slice A5 l5.kids.length c5))))
 obtain ⟨gx,hgx⟩:∃ gx,gx=w5.heap.size:=⟨_,rfl⟩
 obtain ⟨W6,hW6⟩:∃ W6,W6=w5.alloc (lvO l5.kind l5.num (.slice A5 l5.kids.length c5)):=⟨_,rfl⟩
 rw [← hgx] at HY6 ⊢
 rw [← hW6] at HG6 HX6 HY6 HC6 HL6 ⊢
 clear hg6 hsem f0 hgx hW6 HX5 HL5 HC5 HM5
 obtain ⟨c0,-,-,c3,-,-,-,-⟩:=row4 HG6.out
 obtain ⟨d0,d1,d2,-,-,-⟩:=row3l HY6.out
 obtain ⟨e0,e1,e2,x0,x1,x2⟩:=row3l HX6.out
 go_cut [4,5] (fun a b w7=>a=.int .i64 (IntKind.i64.wrap ((n:Int) - n6))∧b=.int .i64 er∧Aside0 (w7.heap[w.heap.size]?=some (lvO l5.kind l5.num (.slice A5 l5.kids.length c5)))∧Aside0 (Chg (fun k=>k=w.heap.size) W6 w7))
 case first =>
  go_region_law (fail)
  all_goals (go_wp2;go_meet)
  all_goals (refine ⟨rfl,rfl,⟨?_⟩,⟨?_⟩⟩)
  all_goals (first | exact set3 HX6.out | exact chg_trans (chg_set3 W6 w.heap.size _ _ _) (Chg.of_below (below_drew (Below.refl _ _))) | exact chg_set3 W6 w.heap.size _ _ _)
 case rest =>
  obtain ⟨rfl,rfl,HX7,HC7⟩:=hcut
  go_wp2
  refine bodyPost_ret (results_ctt rfl _ _ w.heap.size 24 #[.int .i64 l5.kind,.int .i64 l5.num,.slice A5 l5.kids.length c5] (0,0) _ rfl HX7.out Try.underlying24 rfl (by kernel_rfl)) rfl ?_
  exact ⟨(A5,c5),l5,_,_,rfl,close_mem eLv (p:=(A5,c5)) HL6.out HZ1.out HC7.out,close_below HB1.out HZ1.out HC6.out HC7.out,lev_took HS.out.bytes HS.out.reads.1 HS.out.len HSEM.out⟩
end Go.Proofs.Ytcgkeolgflphiaa

namespace Go.Proofs.Ytcgkeolgflphiaa
open Go.RowKit Go.Proofs.YtcgkeolgflphiaaW.PrintWords Go.RegionInvYtcgkeolgflphiaa

theorem notNil_takeLv (gf:Nat) (W:World):(binOp .eql 153 (.func (.func 128) #[] #[.pointer (some ⟨gf,0,none⟩)]) .nilFunc).run Try.prog W=.ok (.bool false) W:=by kernel_rfl
set_option maxRecDepth 100000 in
set_option maxHeartbeats 8000000 in
theorem takeLv_calls (gf:Nat) (A:Option Addr) (n c:Nat) (xs:List Int) (most:Int) (w:World) (h:Bs w w.heap.size A n c xs) (hm0:0≤most) (hm1:most≤16) (hf:w.heap[gf]?=some (.cells #[.func (.func 121) #[] #[]] 143 (0,0))) :
  Calls Try.prog 127 #[.slice A n c,.int .i64 most,.func (.func 128) #[] #[.pointer (some ⟨gf,0,none⟩)]] w (TakeLP eLv (listR most lev1 xs) xs w):=by
 have HS:=Ak h
 have hnil:=notNil_takeLv gf
 have hlen:=h.len
 have hxn:=h.reads.1
 have HF:=Ak hf
 clear hf
 go_enter Try.func127,Try.ntmps127
 rcases takeN_cases h.bytes with hT | hT | ⟨m,k,hT,hm,hk1,hk2⟩
 ·have HE:=Ak (listR_short (most:=most) (f:=lev1) hT (by decide))
  have HT:=Ak hT
  clear hT h hxn
  go_wp2_with (go_at_call 75;go_must (refine (take_calls _ _ _ xs _ HS.out.reads HS.out.bytes hlen).mono ?_;rintro e w' ⟨rfl,hw⟩;obtain rfl:w=w':=hw.symm;rw [HT.out]))
  go_ret3
  exact takeLP_err HE.out (by decide) (Below.refl _ _)
 ·have HE:=Ak (listR_short (most:=most) (f:=lev1) hT (by decide))
  have HT:=Ak hT
  clear hT h hxn
  go_wp2_with (go_at_call 75;go_must (refine (take_calls _ _ _ xs _ HS.out.reads HS.out.bytes hlen).mono ?_;rintro e w' ⟨rfl,hw⟩;obtain rfl:w=w':=hw.symm;rw [HT.out]))
  go_ret3
  exact takeLP_err HE.out (by decide) (Below.refl _ _)
 ·have HT:=Ak hT
  by_cases hlong:most<m
  ·have HE:=Ak (listR_many (f:=lev1) hT hlong)
   clear hT h hxn
   go_wp2_with (go_at_call 75;go_must (refine (take_calls _ _ _ xs _ HS.out.reads HS.out.bytes hlen).mono ?_;rintro e w' ⟨rfl,hw⟩;obtain rfl:w=w':=hw.symm;rw [HT.out]))
   go_ret3
   exact takeLP_err HE.out (by decide) (Below.refl _ _)
  ·have h1:(m:Int)≤most:=by omega
   have HE:=Ak (listR_ok (f:=lev1) hT hlong)
   have hk3:k≤n:=by omega
   have HXN:=Ak hxn
   clear hT h hlong hxn
   go_wp2_with (go_at_call 75;go_must (refine (take_calls _ _ _ xs _ HS.out.reads HS.out.bytes hlen).mono ?_;rintro e w' ⟨rfl,hw⟩;obtain rfl:w=w':=hw.symm;rw [HT.out]))
   go_loopw [9,10,12] (fun u p v wr=>∃ (r at_:Nat) (acc:List Lv),u=.int .u64 r∧p=.int .i64 at_∧r+acc.length≤16∧1≤at_∧at_≤n∧Aside0 (listR most lev1 xs=moreR acc (manyR lev1 r (xs.drop at_)))∧Aside0 (RowG eLv wr w.heap.size v acc)∧Aside0 (Below w.heap.size w wr)) (fun u _ _ _=>(intOf u).toNat)
   case atStart=>exact ⟨m,k,[],rfl,rfl,by simp;omega,hk1,hk3,HE,⟨RowG.nil _ _ _⟩,⟨Below.refl _ _⟩⟩
   case round =>
    clear HE HT
    obtain ⟨r,at_,acc,rfl,rfl,hr16,hat1,hat,HE,HO,HB⟩:=hrel
    rcases r with _ | r
    ·have HE2:=Ak (show listR most lev1 xs=.ok (acc,xs.drop at_) from HE.out.trans moreR_end)
     go_wp2
     go_ret3
     exact ⟨u12,acc,at_,0,rfl,HO.out,HB.out,by rw [HE2.out];exact ⟨rfl,rfl,at_,rfl,hat1,by have:=HXN.out;omega,rfl⟩⟩
    ·obtain ⟨A',hcut,hrd⟩:=cut_old (A:=A) (n:=n) (c:=c) at_ hat
     have HRD:=Ak (hrd wr wr.heap.size xs ((HS.out.chg (S:=fun k=>w.heap.size≤k) (Nat.le_refl _) (fun _ h=>h) (chg_of_base HB.out)).mono HB.out.size))
     have hr1:(((r+1:Nat):Int) == 0)=false:=by simp;omega
     clear hrd
     go_upto_region 12 with (first
      | (go_at_call 128;go_must (refine (listLv_calls gf A' (n - at_) (c - at_) (xs.drop at_) _ HRD.out ((HB.out.block _ (blk_lt HF.out)).trans HF.out)).mono ?_;rintro e w2 ⟨p,l5,cnt,er,rfl,hmem,hb,htk⟩;obtain ⟨p1,p2⟩:=p;have HMEM:=Ak hmem;have HB2:=Ak hb;have HTK:=Ak htk;clear hmem hb htk;simp only [lvVal,lvV])))
     have hbx:(w2.alloc (.cells #[.int .i64 l5.kind,.int .i64 l5.num,.slice p1 l5.kids.length p2] 24 (0,0))).heap[w2.heap.size]?=some (.cells #[.int .i64 l5.kind,.int .i64 l5.num,.slice p1 l5.kids.length p2] 24 (0,0))∧Below w2.heap.size w2 (w2.alloc (.cells #[.int .i64 l5.kind,.int .i64 l5.num,.slice p1 l5.kids.length p2] 24 (0,0))):=⟨blk_new _ _,below_alloc (Below.refl _ _) _⟩
     have hb2:=below_then HB2.out HB2.out.size hbx.2
     have HY:=Ak hbx.1
     have HB3:=Ak (show Below w.heap.size w (w2.alloc (.cells #[.int .i64 l5.kind,.int .i64 l5.num,.slice p1 l5.kids.length p2] 24 (0,0))) from below_then HB.out HB.out.size hb2)
     have HO3:=Ak (RowG.later HO.out hb2)
     have HM3:=Ak (eLv.beside HO.out HB.out.size (eLv.same (w':=w2.alloc (.cells #[.int .i64 l5.kind,.int .i64 l5.num,.slice p1 l5.kids.length p2] 24 (0,0))) HMEM.out fun k hk hz=>hbx.2.block k hz))
     obtain ⟨gx,hgx⟩:∃ gx,gx=w2.heap.size:=⟨_,rfl⟩
     obtain ⟨W3,hW3⟩:∃ W3,W3=w2.alloc (.cells #[.int .i64 l5.kind,.int .i64 l5.num,.slice p1 l5.kids.length p2] 24 (0,0)):=⟨_,rfl⟩
     rw [← hW3] at HY HB3 HO3 HM3 ⊢
     rw [← hgx] at HY ⊢
     clear hbx hb2
     clear hgx hW3 HMEM HB2 HRD hcut
     obtain ⟨d0,d1,d2,-,-,-⟩:=row3l HY.out
     cases hf1:lev1 (xs.drop at_) with
     | error ee =>
      have htk:=HTK.out
      rw [hf1] at htk
      obtain ⟨rfl,hne⟩:=htk
      have hne':(er != 0)=true:=by simp [hne]
      have HK:=Ak (HE.out.trans (moreR_bad hf1))
      have HNE:=Ak hne
      clear hf1 hne HTK
      go_wp2
      go_ret3
      exact takeLP_err HK.out HNE.out HB3.out
     | ok y =>
      obtain ⟨x',r'⟩:=y
      have htk:=HTK.out
      rw [hf1] at htk
      obtain ⟨hxx,rfl,u,rfl,hu1,hu2,hrr⟩:=htk
      subst hxx
      have HK:=Ak (HE.out.trans (moreR_next hf1))
      have hu3:at_+u≤n:=by have:=HXN.out;rw [List.length_drop] at hu2;omega
      have HRR:=Ak (show r'=xs.drop (at_+u) by rw [hrr,List.drop_drop])
      obtain ⟨cs,q,hown,hcs⟩:=HO3.out
      have HOWN:=Ak hown
      have HCS:=Ak hcs
      clear hf1 HTK hown hcs hrr hu2
      go_wp2_with (first | (at_builtin;go_must (refine print_append_cells (w0:=W3) w.heap.size rfl (.tmp 65) (.tmp 67) 22 24 _ 3 40 rfl Try.underlying22 infoLv rfl (by decide) (by decide) u12 acc.length cs [.int .i64 l5.kind,.int .i64 l5.num,.slice p1 l5.kids.length p2] rfl rfl rfl (List.all_eq_true.1 rfl) HOWN.out (Below.refl _ _) HB3.out.size (by omega) ?_;intro v3 w3 ho hb hg hat;have HO4:=Ak (RowG.push (E:=eLv) HOWN.out HCS.out HM3.out ho hg hat);have HB4:=Ak (HB3.out.trans hb);clear ho hb hg hat)))
      go_roundw
      case rel=>exact ⟨r,at_+u,acc ++ [l5],by go_num,by go_num,by simp only [List.length_append,List.length_singleton];omega,by omega,hu3,⟨by rw [HK.out,HRR.out]⟩,HO4,HB4⟩
      case measure=>(simp [intOf];try omega)
end Go.Proofs.Ytcgkeolgflphiaa

namespace Go.Proofs.Ytcgkeolgflphiaa
open Go.RowKit Go.Proofs.YtcgkeolgflphiaaW.PrintWords Go.RegionInvYtcgkeolgflphiaa

def ListSt {α:Type} (W:World) (g:Nat) (N m:Int) (l:List α):Except Int (List α × List Int)→Prop
 | .ok (l',r)=>l=l'∧RdOk W g r N m
 | .error k=>l=[]∧RdBad W g k
def ListRd {P α:Type} (E:El P α) (w:World) (g:Nat) (N m:Int) (R:Except Int (List α × List Int)) (e:Ending) (w':World):Prop:=
 ∃ V l,e=.returned V∧RowG E w' w.heap.size V l∧Chg (fun k=>k=g) w w'∧ListSt w' g N m l R
theorem RowG.base {P α:Type} {E:El P α} {w:World} {lo lo':Nat} {V:Value} {xs:List α} (h:RowG E w lo V xs) (hl:lo'≤lo):RowG E w lo' V xs:=by
 obtain ⟨cs,q,ho,hk⟩:=h
 exact ⟨cs,q,own_weaken ho hl,fun i x hx=>⟨(hk i x hx).1,E.mono (hk i x hx).2 fun k hk _=>⟨by omega,hk.2⟩⟩⟩
theorem list_row {P α:Type} {E:El P α} {W2:World} {lo lo' g j:Nat} {V x:Value} {l:List α} (h:RowG E W2 lo V l) (hl:lo'≤lo) (hg:g<lo'):RowG E (W2.setCell ⟨g,j,none⟩ x) lo' V l:=
 (h.base hl).keep (chg_set _ _ _ _) (fun k e=>by omega)
set_option maxHeartbeats 4000000 in
theorem listOfLv_bad (g:Nat) (er most:Int) (w:World) (h:RdBad w g er) (he:er≠0) :
  Calls Try.prog 120 #[.pointer (some ⟨g,0,none⟩),.int .i64 most,.func (.func 121) #[] #[]] w fun e w'=>e=.returned (.slice none 0 0)∧Below w.heap.size w w':=by
 have hb1:=below_alloc (Below.refl w.heap.size w) (.cells #[.func (.func 121) #[] #[]] 143 (0,0))
 have HB1:=Ak hb1
 obtain ⟨A,n,c,N,m,hg⟩:=h.below hb1
 have he':(er != 0)=true:=by simp [he]
 have HG:=Ak hg
 clear he h hb1 hg
 go_enter Try.func120,Try.ntmps120
 go_upto_region 1 with (fail)
 obtain ⟨W1,hW1⟩:∃ W1,W1=w.alloc (.cells #[.func (.func 121) #[] #[]] 143 (0,0)):=⟨_,rfl⟩
 rw [← hW1] at HB1 HG ⊢
 clear hW1
 obtain ⟨c0,c1,c2,c3,z0,z1,z2,z3⟩:=row4 HG.out
 go_wp2
 go_ret
 exact ⟨rfl,HB1.out⟩
set_option maxHeartbeats 8000000 in
theorem listOfLv_calls (g:Nat) (xs:List Int) (N m most:Int) (w:World) (h:RdOk w g xs N m) (hm0:0≤most) (hm1:most≤16) :
  Calls Try.prog 120 #[.pointer (some ⟨g,0,none⟩),.int .i64 most,.func (.func 121) #[] #[]] w (ListRd eLv w g N m (listR most lev1 xs)):=by
 have hb1:=below_alloc (Below.refl w.heap.size w) (.cells #[.func (.func 121) #[] #[]] 143 (0,0))
 have HB1:=Ak hb1
 have HF1:=Ak (blk_new w (.cells #[.func (.func 121) #[] #[]] 143 (0,0)))
 obtain ⟨A,n,c,hg,hs⟩:=h.below hb1
 have HG:=Ak hg
 have HS:=Ak hs
 have HGL:=Ak h.lt
 clear h hb1 hg hs
 go_enter Try.func120,Try.ntmps120
 go_upto_region 1 with (fail)
 obtain ⟨gf,hgf⟩:∃ gf,gf=w.heap.size:=⟨_,rfl⟩
 rw [← hgf]
 obtain ⟨W1,hW1⟩:∃ W1,W1=w.alloc (.cells #[.func (.func 121) #[] #[]] 143 (0,0)):=⟨_,rfl⟩
 rw [← hW1] at HB1 HF1 HG HS ⊢
 rw [← hgf] at HF1
 have HZ:=Ak (show w.heap.size≤W1.heap.size by rw [hW1];simp)
 clear hW1 hgf
 obtain ⟨c0,c1,c2,c3,z0,z1,z2,z3⟩:=row4 HG.out
 go_upto_region 4 with (go_at_call 127;go_must (refine (takeLv_calls gf A n c xs most _ (HS.out.mono (Nat.le_of_lt (blk_lt HG.out))) hm0 hm1 HF1.out).mono ?_;rintro e w2 ⟨V,l,cnt,er,rfl,hrow,hb,htk⟩;have HG2:=Ak (blk_below HG.out hb);have HS2:=Ak (HS.out.chg (S:=fun _=>False) (Nat.le_of_lt (blk_lt HG.out)) (fun _ h=>h.elim) (Chg.of_below hb));have HROW:=Ak hrow;have HTK:=Ak htk;have HB2:=Ak hb;clear hrow hb htk))
 clear c0 c1 c2 c3 z0 z1 z2 z3
 cases hR:listR most lev1 xs with
 | error k =>
  have htk:=HTK.out
  rw [hR] at htk
  obtain ⟨rfl,rfl,rfl,rfl,hne⟩:=htk
  have HNE:=Ak hne
  have HRE:=Ak hR
  clear hR hne HTK
  go_wp2_with (go_at_call 106;go_must (refine (skip_no g A n c N m 0 er _ HG2.out HNE.out).mono ?_;rintro e w' ⟨rfl,hw⟩;subst hw))
  go_ret
  exact ⟨_,[],rfl,RowG.nil _ _ _,chg_trans (Chg.of_below HB1.out) (chg_trans (Chg.of_below HB2.out) (chg_set _ _ _ _)),by rw [HRE.out];exact ⟨rfl,_,_,_,_,_,rd4_3 HG2.out⟩⟩
 | ok y =>
  obtain ⟨l',r⟩:=y
  have htk:=HTK.out
  rw [hR] at htk
  obtain ⟨rfl,rfl,u,rfl,hu1,hu2,hrr⟩:=htk
  have hu3:u≤n:=by rw [HS.out.reads.1] at hu2;exact hu2
  obtain ⟨A',hcut,hcs⟩:=cut_old (A:=A) (n:=n) (c:=c) u hu3
  have HCUT:=Ak hcut
  have HCS:=Ak (hcs _ g xs HS2.out)
  have HRR:=Ak hrr
  have HRE:=Ak hR
  clear hR HTK hcut hcs hrr hu2
  go_wp2_with (go_at_call 106;go_must (refine (skip_ok g A A' n c (n - u) (c - u) N m u _ HG2.out HCUT.out).mono ?_;rintro e w' ⟨rfl,hw⟩;subst hw))
  go_ret
  have HRX:=HROW.out
  exact ⟨_,l,rfl,list_row HRX HZ.out HGL.out,chg_trans (Chg.of_below HB1.out) (chg_trans (Chg.of_below HB2.out) (chg_set _ _ _ _)),by rw [HRE.out];exact ⟨rfl,A',n - u,c - u,rd4_0 HG2.out,by rw [HRR.out];exact HCS.out.chg (Nat.le_of_lt (blk_lt HG2.out)) (fun k e=>Nat.le_of_eq e.symm) (chg_set _ _ _ _)⟩⟩
end Go.Proofs.Ytcgkeolgflphiaa

namespace Go.Proofs.Ytcgkeolgflphiaa
open Go.RowKit Go.Proofs.YtcgkeolgflphiaaW.PrintWords Go.RegionInvYtcgkeolgflphiaa

structure TOwn where
 n:Int
 s:ByteArray
 lv:Lv
 ls:List Lv
def tmKids (k:Int):Nat:=if k=1∨k=2∨k=7 then 0 else if k=5 then 3 else 2
def tmOwn (k:Int) (r:List Int):Except Int (TOwn × List Int):=
 if k=1 then match numR r with
  | .error e=>.error e
  | .ok (n,r0)=>.ok (⟨n,⟨#[]⟩,.mk 0 0 [],[]⟩,r0)
 else if k=2 then match lev1 r with
  | .error e=>.error e
  | .ok (l,r0)=>.ok (⟨0,⟨#[]⟩,l,[]⟩,r0)
 else if k=7 then match nameR r with
  | .error e=>.error e
  | .ok (s,r0)=>match listR 6 lev1 r0 with
   | .error e=>.error e
   | .ok (ls,r1)=>.ok (⟨0,s,.mk 0 0 [],ls⟩,r1)
 else .ok (⟨0,⟨#[]⟩,.mk 0 0 [],[]⟩,r)
def tmPre (f:Nat) (R0:Except Int (TOwn × List Int)) (m:Int) (j:Nat):Except Int (List Tm × List Int × Int):=match R0 with
 | .error e=>.error e
 | .ok (_,r0)=>kidsR (tmR f) j r0 m
def tmAll (k:Int) (R0:Except Int (TOwn × List Int)):Except Int (List Tm × List Int × Int)→Except Int (Tm × List Int × Int)
 | .error e=>.error e
 | .ok (l,r,m)=>match R0 with
  | .error e=>.error e
  | .ok (o,_)=>.ok (.mk k o.n o.s o.lv o.ls l,r,m)
theorem tmR_pre {f:Nat} {xs r:List Int} {m k:Int} (hK:kindR 7 xs=.ok (k,r)) (hm:m<400):tmR (f+1) xs m=tmAll k (tmOwn k r) (tmPre f (tmOwn k r) (m+1) (tmKids k)):=by
 rw [tmR,hK]
 simp only []
 rw [if_neg (by omega)]
 unfold tmOwn tmKids
 by_cases k1:k=1
 ·subst k1
  simp only [if_true,true_or]
  cases numR r with
  | error e=>rfl
  | ok x=>rfl
 ·rw [if_neg k1,if_neg k1]
  by_cases k2:k=2
  ·subst k2
   simp only [if_true,true_or,or_true]
   cases lev1 r with
   | error e=>rfl
   | ok x=>rfl
  ·rw [if_neg k2,if_neg k2]
   by_cases k7:k=7
   ·subst k7
    simp only [if_true,or_true]
    cases nameR r with
    | error e=>rfl
    | ok x =>
     simp only []
     cases listR 6 lev1 x.2 with
     | error e=>rfl
     | ok y=>rfl
   ·rw [if_neg k7,if_neg k7,if_neg (show ¬ (k=1∨k=2∨k=7) by omega)]
    simp only [tmPre]
    cases kidsR (tmR f) (if k=5 then 3 else 2) r (m+1) with
    | error e=>rfl
    | ok y=>rfl
theorem tmPre_err {f:Nat} {R0:Except Int (TOwn × List Int)} {m e:Int} {j:Nat} (h:tmPre f R0 m j=.error e):tmPre f R0 m (j+1)=.error e:=by
 unfold tmPre at h ⊢
 cases R0 with
 | error e'=>exact h
 | ok x =>
  obtain ⟨n,r0⟩:=x
  simp only [] at h ⊢
  rw [kids_snoc,h]
theorem tmPre_ok {f:Nat} {R0:Except Int (TOwn × List Int)} {m m1:Int} {j:Nat} {l:List Tm} {r:List Int} (h:tmPre f R0 m j=.ok (l,r,m1)):tmPre f R0 m (j+1)=match tmR f r m1 with
  | .error e=>.error e
  | .ok (t,r',m2)=>.ok (l ++ [t],r',m2):=by
 unfold tmPre at h ⊢
 cases R0 with
 | error e'=>cases h
 | ok x =>
  obtain ⟨n,r0⟩:=x
  simp only [] at h ⊢
  simp only [kids_snoc,h]
  cases tmR f r m1 <;> rfl
theorem tm_grow:∀ (f:Nat) {xs r:List Int} {m m':Int} {t:Tm},0≤m→m≤400→tmR f xs m=.ok (t,r,m')→0≤m'∧m'≤400
 | 0,xs,r,m,m',t,_,_,h=>by
  unfold tmR at h
  split at h <;> cases h
 | f+1,xs,r,m,m',t,h0,h1,h=>by
  cases hK:kindR 7 xs with
  | error e=>rw [tmR,hK] at h;cases h
  | ok x =>
   obtain ⟨k,r0⟩:=x
   by_cases hm:m<400
   ·rw [tmR_pre hK hm] at h
    cases ho:tmOwn k r0 with
    | error e=>rw [ho] at h;cases h
    | ok y =>
     rw [ho] at h
     unfold tmPre at h
     simp only [] at h
     cases hk:kidsR (tmR f) (tmKids k) y.2 (m+1) with
     | error e=>rw [hk] at h;cases h
     | ok z =>
      obtain ⟨l,r2,m2⟩:=z
      rw [hk] at h
      simp only [tmAll,Except.ok.injEq,Prod.mk.injEq] at h
      obtain ⟨-,-,rfl⟩:=h
      exact kids_grow (fun h0 h1 e=>tm_grow f h0 h1 e) _ (by omega) (by omega) hk
   ·rw [tmR,hK] at h
    simp only [] at h
    rw [if_pos (by omega)] at h
    cases h
theorem tmPre_grow {f:Nat} {R0:Except Int (TOwn × List Int)} {m m1:Int} {j:Nat} {l:List Tm} {r:List Int} (h:tmPre f R0 m j=.ok (l,r,m1)) (h0:0≤m) (h1:m≤400):0≤m1∧m1≤400:=by
 unfold tmPre at h
 cases R0 with
 | error e'=>cases h
 | ok x =>
  obtain ⟨n,r0⟩:=x
  exact kids_grow (fun h0 h1 e=>tm_grow f h0 h1 e) _ h0 h1 h
theorem own_err {k:Int} {r:List Int} {e:Int} (h:tmOwn k r=.error e):e≠0:=by
 unfold tmOwn at h
 split at h
 ·split at h
  ·rename_i h1;cases h;exact num_err h1
  ·cases h
 ·split at h
  ·split at h
   ·rename_i h1;cases h;exact lev1_err h1
   ·cases h
  ·split at h
   ·split at h
    ·rename_i h1;cases h;exact name_err h1
    ·split at h
     ·rename_i h1;cases h;exact list_err (fun h=>lev1_err h) h1
     ·cases h
   ·cases h
theorem tmPre_ne {f:Nat} {k:Int} {r0:List Int} {m e:Int} {j:Nat} (h:tmPre f (tmOwn k r0) m j=.error e):e≠0:=by
 unfold tmPre at h
 cases hn:tmOwn k r0 with
 | error e' =>
  rw [hn] at h
  cases h;exact own_err hn
 | ok x =>
  rw [hn] at h
  exact kids_err (fun h=>tm_err f h) _ h
theorem many_len {α:Type} {f:List Int→Except Int (α × List Int)}:∀ (n:Nat) {xs r:List Int} {l:List α},manyR f n xs=.ok (l,r)→l.length=n
 | 0,xs,r,l,h=>by
  simp only [manyR,Except.ok.injEq,Prod.mk.injEq] at h
  obtain ⟨rfl,rfl⟩:=h
  rfl
 | n+1,xs,r,l,h=>by
  unfold manyR at h
  split at h
  ·cases h
  ·split at h
   ·cases h
   ·rename_i hl
    simp only [Except.ok.injEq,Prod.mk.injEq] at h
    obtain ⟨rfl,-⟩:=h
    rw [List.length_cons,many_len n hl]
theorem list_len {α:Type} {most:Int} {f:List Int→Except Int (α × List Int)} {xs r:List Int} {l:List α} (h:listR most f xs=.ok (l,r)) (h0:0≤most):(l.length:Int)≤most:=by
 unfold listR at h
 split at h
 ·cases h
 ·split at h
  ·cases h
  ·rw [many_len _ h];omega
theorem okNum_fit {r:List Int} (hB:Bytes r):0≤okNum (numR r)∧okNum (numR r)≤1048576:=by
 have h:=takeN_range hB
 unfold numR
 split
 ·simp only [okNum];omega
 ·split
  ·simp only [okNum];omega
  ·simp only [okNum];omega
end Go.Proofs.Ytcgkeolgflphiaa

namespace Go.Proofs.Ytcgkeolgflphiaa
open Go.RowKit Go.Proofs.YtcgkeolgflphiaaW.PrintWords Go.RegionInvYtcgkeolgflphiaa

abbrev SetL (S:Nat→Prop) (lo:Nat) (V:Value):Nat→Prop:=fun b=>S b∨(lo≤b∧V.ownBlock≠some b)
def KidsL (w:World) (S:Nat→Prop) (lo:Nat) (V:Value) (xs:List Lv):Prop:=
 ∃ (cells:List Value) (fA:Nat→Option Addr) (fc:Nat→Nat),w.ownsRow lo 24 3 V xs.length cells ∧
  ∀ (i:Nat) (x:Lv),xs[i]?=some x→cells[i * 3]?=some (.int .i64 x.kind)∧cells[i * 3+1]?=some (.int .i64 x.num)∧cells[i * 3+2]?=some (.slice (fA i) x.kids.length (fc i))∧LvS w (SetL S lo V) (fA i) (fc i) x
theorem KidsL.nil (w:World) (S:Nat→Prop) (lo:Nat):KidsL w S lo (.slice none 0 0) []:=⟨[],fun _=>none,fun _=>0,own_nil _ _ _ _,fun i x h=>by simp at h⟩
theorem KidsL.later {w w':World} {S:Nat→Prop} {lo:Nat} {V:Value} {xs:List Lv} (h:KidsL w S lo V xs) (hb:Below w.heap.size w w'):KidsL w' S lo V xs:=by
 obtain ⟨cells,fA,fc,ho,hk⟩:=h
 exact ⟨cells,fA,fc,pw_own_below ho hb,fun i x hx=>⟨(hk i x hx).1,(hk i x hx).2.1,(hk i x hx).2.2.1,(hk i x hx).2.2.2.later hb⟩⟩
theorem KidsL.other {w w':World} {S:Nat→Prop} {lo g:Nat} {V:Value} {xs:List Lv} (h:KidsL w S lo V xs) (hc:Chg (fun k=>k=g) w w') (hg:g<lo) (hS:¬ S g):KidsL w' S lo V xs:=by
 obtain ⟨cells,fA,fc,ho,hk⟩:=h
 refine ⟨cells,fA,fc,ownsRow_same ho fun k hk=>hc.block k (own_lt ho k hk) (by have:=own_base ho k hk;omega),fun i x hx=>?_⟩
 obtain ⟨h1,h2,h3,h4⟩:=hk i x hx
 exact ⟨h1,h2,h3,h4.same fun k hs hz=>hc.block k hz (fun e=>by rcases hs with hs | hs;exact hS (e ▸ hs);omega)⟩
theorem setL_keep {w w1:World} {S:Nat→Prop} {lo:Nat} {V v1:Value} {e:TypeId} {size n:Nat} {cells:List Value} (ho:w.ownsRow lo e size V n cells) (hS:∀ b,S b→b<lo) (hat:v1.ownBlock=V.ownBlock∨∃ b,v1.ownBlock=some b∧w.heap.size≤b) (hg:w.grownBy w1 V.ownBlock) :
  (∀ k,SetL S lo V k→k<w.heap.size→SetL S lo v1 k)∧∀ k,SetL S lo V k→k<w.heap.size→w1.heap[k]?=w.heap[k]?:=by
 refine ⟨fun k hk hz=>hk.imp id fun h=>⟨h.1,?_⟩,fun k hk hz=>hg.block k hz fun e=>?_⟩
 ·rcases hat with e | ⟨b,e,hb⟩
  ·rw [e];exact h.2
  ·rw [e];intro h';injection h' with h';omega
 ·rcases hk with hk | hk
  ·have:=hS k hk
   have:=own_base ho k e.symm
   omega
  ·exact hk.2 e.symm
theorem KidsL.push {w w1:World} {S:Nat→Prop} {lo:Nat} {V v1:Value} {xs:List Lv} {x:Lv} {A:Option Addr} {c:Nat} {cells:List Value} {fA:Nat→Option Addr} {fc:Nat→Nat} (hS:∀ b,S b→b<lo) (ho:w.ownsRow lo 24 3 V xs.length cells)
  (hk:∀ (i:Nat) (x:Lv),xs[i]?=some x→cells[i * 3]?=some (.int .i64 x.kind)∧cells[i * 3+1]?=some (.int .i64 x.num)∧cells[i * 3+2]?=some (.slice (fA i) x.kids.length (fc i))∧LvS w (SetL S lo V) (fA i) (fc i) x)
  (hx:LvS w (SetL S lo V) A c x) (ho1:w1.ownsRow lo 24 3 v1 (xs.length+1) (cells ++ [.int .i64 x.kind,.int .i64 x.num,.slice A x.kids.length c]))
  (hg:w.grownBy w1 V.ownBlock) (hat:v1.ownBlock=V.ownBlock∨∃ b,v1.ownBlock=some b∧w.heap.size≤b):KidsL w1 S lo v1 (xs ++ [x]):=by
 obtain ⟨k1,k2⟩:=setL_keep ho hS hat hg
 have keep:∀ {A:Option Addr} {c:Nat} {y:Lv},LvS w (SetL S lo V) A c y→LvS w1 (SetL S lo v1) A c y:=by
  intro A c y h
  have h1:LvS w (fun b=>SetL S lo V b∧b<w.heap.size) A c y:=h.mono fun k hk hz=>⟨hk,hz⟩
  exact (h1.same fun k hs hz=>k2 k hs.1 hz).mono fun k hs _=>k1 k hs.1 hs.2
 have hl:=own_len ho
 refine ⟨_,fun i=>if i=xs.length then A else fA i,fun i=>if i=xs.length then c else fc i,by simpa using ho1,fun i y hy=>?_⟩
 rcases Nat.lt_or_ge i xs.length with hi | hi
 ·rw [List.getElem?_append_left hi] at hy
  obtain ⟨h1,h2,h3,h4⟩:=hk i y hy
  rw [List.getElem?_append_left (by omega),List.getElem?_append_left (by omega),List.getElem?_append_left (by omega)]
  simp only [if_neg (show ¬ i=xs.length by omega)]
  exact ⟨h1,h2,h3,keep h4⟩
 ·rw [List.getElem?_append_right hi] at hy
  have hi2:i=xs.length:=by
   cases e:i - xs.length with
   | zero=>omega
   | succ j=>rw [e] at hy;simp at hy
  subst hi2
  obtain rfl:x=y:=by simpa using hy
  rw [List.getElem?_append_right (by omega),List.getElem?_append_right (by omega),List.getElem?_append_right (by omega)]
  simp only [↓reduceIte]
  rw [show xs.length * 3 - cells.length=0 by omega,show xs.length * 3+1 - cells.length=1 by omega,show xs.length * 3+2 - cells.length=2 by omega]
  exact ⟨rfl,rfl,rfl,keep hx⟩
theorem own_max {w:World} {lo n:Nat} {e:TypeId} {size:Nat} {A:Option Addr} {c:Nat} {xs:List Value} (ho:w.ownsRow lo e size (.slice A n c) n xs):c≤9223372036854775807:=by
 rcases ho.2 with ⟨h1,_⟩ | ⟨g,cap,cur,h1,_,_,h2,h3,_⟩
 ·injection h1 with _ _ h1;omega
 ·injection h1 with _ _ h1
  subst h1
  simp only [maxLen] at h3
  omega
theorem KidsL.level {w:World} {S:Nat→Prop} {lo:Nat} {V:Value} {xs:List Lv} (h:KidsL w S lo V xs):∃ A c,V=.slice A xs.length c∧LvS w (fun b=>S b∨lo≤b) A c (.mk 0 0 xs):=by
 obtain ⟨cells,fA,fc,ho,hk⟩:=h
 obtain ⟨A,c,rfl⟩:=own_slice ho
 refine ⟨A,c,rfl,.mk fA fc (own_cap ho) (own_max ho) (fun i x hx=>?_) (fun i x hx=>(hk i x hx).2.2.2.mono fun b hb _=>hb.imp id And.left)⟩
 have hi:i<xs.length:=by
  rcases Nat.lt_or_ge i xs.length with h | h
  ·exact h
  ·rw [List.getElem?_eq_none h] at hx;cases hx
 obtain ⟨g,cap,hv,hb,_⟩:=ho.form (by omega)
 obtain ⟨h1,h2,h3,_⟩:=hk i x hx
 have hv':=hv
 injection hv with hA
 exact ⟨⟨g,0,none⟩,hA,.inr hb,rfl,ho.cells (g:=g) (by rw [hv'];rfl) _ _ h1,ho.cells (g:=g) (by rw [hv'];rfl) _ _ h2,ho.cells (g:=g) (by rw [hv'];rfl) _ _ h3⟩
def KidsT (w:World) (S:Nat→Prop) (lo:Nat) (V:Value) (xs:List Tm):Prop:=
 ∃ (cells:List Value) (q:Nat→Pl),w.ownsRow lo 27 8 V xs.length cells ∧
  ∀ (i:Nat) (x:Tm),xs[i]?=some x→(∀ (j:Nat) (v:Value),(tmC (q i) x)[j]?=some v→cells[i * 8+j]?=some v)∧TmS w (SetL S lo V) (q i) x
theorem KidsT.nil (w:World) (S:Nat→Prop) (lo:Nat):KidsT w S lo (.slice none 0 0) []:=⟨[],fun _=>default,own_nil _ _ _ _,fun i x h=>by simp at h⟩
theorem KidsT.later {w w':World} {S:Nat→Prop} {lo:Nat} {V:Value} {xs:List Tm} (h:KidsT w S lo V xs) (hb:Below w.heap.size w w'):KidsT w' S lo V xs:=by
 obtain ⟨cells,q,ho,hk⟩:=h
 exact ⟨cells,q,pw_own_below ho hb,fun i x hx=>⟨(hk i x hx).1,(hk i x hx).2.later hb⟩⟩
theorem KidsT.other {w w':World} {S:Nat→Prop} {lo g:Nat} {V:Value} {xs:List Tm} (h:KidsT w S lo V xs) (hc:Chg (fun k=>k=g) w w') (hg:g<lo) (hS:¬ S g):KidsT w' S lo V xs:=by
 obtain ⟨cells,q,ho,hk⟩:=h
 refine ⟨cells,q,ownsRow_same ho fun k hk=>hc.block k (own_lt ho k hk) (by have:=own_base ho k hk;omega),fun i x hx=>⟨(hk i x hx).1,(hk i x hx).2.same fun k hs hz=>hc.block k hz (fun e=>by rcases hs with hs | hs;exact hS (e ▸ hs);omega)⟩⟩
theorem KidsT.push {w w1:World} {S:Nat→Prop} {lo:Nat} {V v1:Value} {xs:List Tm} {x:Tm} {p:Pl} {cells:List Value} {q:Nat→Pl} (hS:∀ b,S b→b<lo) (ho:w.ownsRow lo 27 8 V xs.length cells)
  (hk:∀ (i:Nat) (x:Tm),xs[i]?=some x→(∀ (j:Nat) (v:Value),(tmC (q i) x)[j]?=some v→cells[i * 8+j]?=some v)∧TmS w (SetL S lo V) (q i) x)
  (hx:TmS w (SetL S lo V) p x) (ho1:w1.ownsRow lo 27 8 v1 (xs.length+1) (cells ++ tmC p x))
  (hg:w.grownBy w1 V.ownBlock) (hat:v1.ownBlock=V.ownBlock∨∃ b,v1.ownBlock=some b∧w.heap.size≤b):KidsT w1 S lo v1 (xs ++ [x]):=by
 obtain ⟨k1,k2⟩:=setL_keep ho hS hat hg
 have keep:∀ {p:Pl} {y:Tm},TmS w (SetL S lo V) p y→TmS w1 (SetL S lo v1) p y:=by
  intro p y h
  have h1:TmS w (fun b=>SetL S lo V b∧b<w.heap.size) p y:=h.mono fun k hk hz=>⟨hk,hz⟩
  exact (h1.same fun k hs hz=>k2 k hs.1 hz).mono fun k hs _=>k1 k hs.1 hs.2
 have hl:=own_len ho
 refine ⟨_,fun i=>if i=xs.length then p else q i,by simpa using ho1,fun i y hy=>?_⟩
 rcases Nat.lt_or_ge i xs.length with hi | hi
 ·rw [List.getElem?_append_left hi] at hy
  obtain ⟨h1,h2⟩:=hk i y hy
  simp only [if_neg (show ¬ i=xs.length by omega)]
  refine ⟨fun j v hv=>?_,keep h2⟩
  have hj:j<8:=by have:=(List.getElem?_eq_some_iff.1 hv).1;rwa [tmC_len] at this
  rw [List.getElem?_append_left (by omega)]
  exact h1 j v hv
 ·rw [List.getElem?_append_right hi] at hy
  have hi2:i=xs.length:=by
   cases e:i - xs.length with
   | zero=>omega
   | succ j=>rw [e] at hy;simp at hy
  subst hi2
  obtain rfl:x=y:=by simpa using hy
  simp only [↓reduceIte]
  refine ⟨fun j v hv=>?_,keep hx⟩
  rw [List.getElem?_append_right (by omega),show xs.length * 8+j - cells.length=j by omega]
  exact hv
theorem set8 {w:World} {g:Nat} {x0 x1 x2 x3 x4 x5 x6 x7 a0 a1 a2 a3 a4 a5 a6 a7:Value} {t:TypeId} (h:w.heap[g]?=some (.cells #[x0,x1,x2,x3,x4,x5,x6,x7] t (0,0))) :
  ((((((((w.setCell ⟨g,0,none⟩ a0).setCell ⟨g,1,none⟩ a1).setCell ⟨g,2,none⟩ a2).setCell ⟨g,3,none⟩ a3).setCell ⟨g,4,none⟩ a4).setCell ⟨g,5,none⟩ a5).setCell ⟨g,6,none⟩ a6).setCell ⟨g,7,none⟩ a7).heap[g]?=some (.cells #[a0,a1,a2,a3,a4,a5,a6,a7] t (0,0)):=by
 have h0:(w.setCell ⟨g,0,none⟩ a0).heap[g]?=some (.cells #[a0,x1,x2,x3,x4,x5,x6,x7] t (0,0)):=blk_put h 0 a0 rfl
 have h1:((w.setCell ⟨g,0,none⟩ a0).setCell ⟨g,1,none⟩ a1).heap[g]?=some (.cells #[a0,a1,x2,x3,x4,x5,x6,x7] t (0,0)):=blk_put h0 1 a1 rfl
 have h2:(((w.setCell ⟨g,0,none⟩ a0).setCell ⟨g,1,none⟩ a1).setCell ⟨g,2,none⟩ a2).heap[g]?=some (.cells #[a0,a1,a2,x3,x4,x5,x6,x7] t (0,0)):=blk_put h1 2 a2 rfl
 have h3:((((w.setCell ⟨g,0,none⟩ a0).setCell ⟨g,1,none⟩ a1).setCell ⟨g,2,none⟩ a2).setCell ⟨g,3,none⟩ a3).heap[g]?=some (.cells #[a0,a1,a2,a3,x4,x5,x6,x7] t (0,0)):=blk_put h2 3 a3 rfl
 have h4:(((((w.setCell ⟨g,0,none⟩ a0).setCell ⟨g,1,none⟩ a1).setCell ⟨g,2,none⟩ a2).setCell ⟨g,3,none⟩ a3).setCell ⟨g,4,none⟩ a4).heap[g]?=some (.cells #[a0,a1,a2,a3,a4,x5,x6,x7] t (0,0)):=blk_put h3 4 a4 rfl
 have h5:((((((w.setCell ⟨g,0,none⟩ a0).setCell ⟨g,1,none⟩ a1).setCell ⟨g,2,none⟩ a2).setCell ⟨g,3,none⟩ a3).setCell ⟨g,4,none⟩ a4).setCell ⟨g,5,none⟩ a5).heap[g]?=some (.cells #[a0,a1,a2,a3,a4,a5,x6,x7] t (0,0)):=blk_put h4 5 a5 rfl
 have h6:(((((((w.setCell ⟨g,0,none⟩ a0).setCell ⟨g,1,none⟩ a1).setCell ⟨g,2,none⟩ a2).setCell ⟨g,3,none⟩ a3).setCell ⟨g,4,none⟩ a4).setCell ⟨g,5,none⟩ a5).setCell ⟨g,6,none⟩ a6).heap[g]?=some (.cells #[a0,a1,a2,a3,a4,a5,a6,x7] t (0,0)):=blk_put h5 6 a6 rfl
 have h7:((((((((w.setCell ⟨g,0,none⟩ a0).setCell ⟨g,1,none⟩ a1).setCell ⟨g,2,none⟩ a2).setCell ⟨g,3,none⟩ a3).setCell ⟨g,4,none⟩ a4).setCell ⟨g,5,none⟩ a5).setCell ⟨g,6,none⟩ a6).setCell ⟨g,7,none⟩ a7).heap[g]?=some (.cells #[a0,a1,a2,a3,a4,a5,a6,a7] t (0,0)):=blk_put h6 7 a7 rfl
 exact h7
theorem chg_set3' (w:World) (g i j k:Nat) (a b c:Value):Chg (fun k=>k=g) w (((w.setCell ⟨g,i,none⟩ a).setCell ⟨g,j,none⟩ b).setCell ⟨g,k,none⟩ c):=chg_trans (chg_trans (chg_set _ _ _ _) (chg_set _ _ _ _)) (chg_set _ _ _ _)
theorem chg_set8 (w:World) (g:Nat) (a0 a1 a2 a3 a4 a5 a6 a7:Value):Chg (fun k=>k=g) w ((((((((w.setCell ⟨g,0,none⟩ a0).setCell ⟨g,1,none⟩ a1).setCell ⟨g,2,none⟩ a2).setCell ⟨g,3,none⟩ a3).setCell ⟨g,4,none⟩ a4).setCell ⟨g,5,none⟩ a5).setCell ⟨g,6,none⟩ a6).setCell ⟨g,7,none⟩ a7):=
 chg_trans (chg_trans (chg_trans (chg_trans (chg_trans (chg_trans (chg_trans (chg_set _ _ _ _) (chg_set _ _ _ _)) (chg_set _ _ _ _)) (chg_set _ _ _ _)) (chg_set _ _ _ _)) (chg_set _ _ _ _)) (chg_set _ _ _ _)) (chg_set _ _ _ _)
end Go.Proofs.Ytcgkeolgflphiaa

namespace Go.Proofs.Ytcgkeolgflphiaa
open Go.RowKit Go.Proofs.YtcgkeolgflphiaaW.PrintWords Go.RegionInvYtcgkeolgflphiaa

abbrev tmbO (k:Int) (o:TOwn) (p:Pl) (V:Value):Obj:=.cells #[.int .i64 k,.int .i64 o.n,.string o.s,.int .i64 o.lv.kind,.int .i64 o.lv.num,.slice p.A o.lv.kids.length p.c,.slice p.B o.ls.length p.d,V] 27 (0,0)
abbrev tzO (k:Int):Obj:=.cells #[.int .i64 k,.int .i64 0,.string ⟨#[]⟩,.int .i64 0,.int .i64 0,.slice none 0 0,.slice none 0 0,.slice none 0 0] 27 (0,0)
def o0:TOwn:=⟨0,⟨#[]⟩,.mk 0 0 [],[]⟩
structure TmBx (w W:World) (g gO:Nat) (k:Int) (o:TOwn) (p:Pl) (V:Value):Prop where
 out:W.heap[gO]?=some (tmbO k o p V)
 res:W.heap[w.heap.size]?=some (tzO 0)
 chg:Chg (fun k=>k=g) w W
 far:w.heap.size<gO
 glt:g<w.heap.size
 lvs:LvS W (fun b=>gO<b) p.A p.c o.lv
 lss:LvS W (fun b=>gO<b) p.B p.d (.mk 0 0 o.ls)
 fit:Fit o.n o.s o.ls
def TmSt (W:World) (g:Nat) (t:Tm):Except Int (Tm × List Int × Int)→Prop
 | .ok (t',r,n)=>t=t'∧∃ m,RdOk W g r n m
 | .error k=>RdBad W g k
def TmRd (w:World) (g:Nat) (R:Except Int (Tm × List Int × Int)) (e:Ending) (w':World):Prop:=
 ∃ p t,e=.returned (tmV p t)∧TmS w' (fun b=>w.heap.size≤b) p t∧Chg (fun k=>k=g) w w'∧TmSt w' g t R
theorem TmSt.chg {W W':World} {g:Nat} {t:Tm} {R:Except Int (Tm × List Int × Int)} {S:Nat→Prop} (h:TmSt W g t R) (hS:∀ k,S k→g<k) (hc:Chg S W W'):TmSt W' g t R:=by
 cases R with
 | error e=>exact RdBad.chg h hS hc
 | ok y=>exact ⟨h.1,by obtain ⟨m,hm⟩:=h.2;exact ⟨m,hm.chg hS hc⟩⟩
theorem TmBx.reader {w W W':World} {g gO:Nat} {k:Int} {o:TOwn} {p:Pl} {V:Value} (h:TmBx w W g gO k o p V) (hc:Chg (fun k=>k=g) W W'):TmBx w W' g gO k o p V:=by
 have h1:=h.far
 have h2:=h.glt
 exact ⟨(hc.block _ (blk_lt h.out) (by omega)).trans h.out,(hc.block _ (blk_lt h.res) (by omega)).trans h.res,chg_trans h.chg hc,h.far,h.glt,h.lvs.same fun k hk hz=>hc.block k hz (by omega),h.lss.same fun k hk hz=>hc.block k hz (by omega),h.fit⟩
theorem tmBx_new {w w2:World} {g:Nat} {k:Int} (hg:g<w.heap.size) (hc:Chg (fun k=>k=g) (w.alloc (tzO 0)) w2):TmBx w (w2.alloc (tzO k)) g w2.heap.size k o0 ⟨none,0,none,0,none,0⟩ (.slice none 0 0):=by
 have hz:=hc.size
 have hs:(w.alloc (tzO 0)).heap.size=w.heap.size+1:=by simp
 refine ⟨blk_new _ _,blk_alloc ((hc.block _ (by omega) (by omega)).trans (blk_new _ _)) _,chg_trans (Chg.of_below (below_alloc (Below.refl _ _) _)) (chg_trans hc (Chg.of_below (below_alloc (Below.refl _ _) _))),by omega,hg,LvS.leaf0 _ _ _ _,LvS.leaf0 _ _ _ _,⟨by decide,by decide,by decide⟩⟩
theorem TmBx.upd {w W W':World} {g gO:Nat} {k:Int} {o o':TOwn} {p p':Pl} {V V':Value} (h:TmBx w W g gO k o p V) (hc:Chg (fun k=>k=gO) W W') (ho:W'.heap[gO]?=some (tmbO k o' p' V'))
  (hl:LvS W (fun b=>gO<b) p'.A p'.c o'.lv) (hs:LvS W (fun b=>gO<b) p'.B p'.d (.mk 0 0 o'.ls)) (hf:Fit o'.n o'.s o'.ls):TmBx w W' g gO k o' p' V':=by
 have h1:=h.far
 have h2:=h.glt
 refine ⟨ho,(hc.block _ (blk_lt h.res) (by omega)).trans h.res,⟨hc.os.trans h.chg.os,hc.tape.trans h.chg.tape,hc.output.trans h.chg.output,Nat.le_trans h.chg.size hc.size,fun i hi hs=>?_⟩,h1,h2,hl.same fun k hk hz=>hc.block k hz (by omega),hs.same fun k hk hz=>hc.block k hz (by omega),hf⟩
 rw [hc.block i (Nat.lt_of_lt_of_le hi h.chg.size) (by omega),h.chg.block i hi hs]
theorem rowLv_level {w:World} {lo:Nat} {V:Value} {xs:List Lv} (h:RowG eLv w lo V xs):∃ A c,V=.slice A xs.length c∧LvS w (fun b=>lo≤b) A c (.mk 0 0 xs):=by
 obtain ⟨cs,q,ho,hk⟩:=h
 obtain ⟨A,c,rfl⟩:=own_slice ho
 refine ⟨A,c,rfl,.mk (fun i=>(q i).1) (fun i=>(q i).2) (own_cap ho) (own_max ho) (fun i x hx=>?_) (fun i x hx=>LvS.mono (hk i x hx).2 fun b hb _=>hb.1)⟩
 have hi:i<xs.length:=by
  rcases Nat.lt_or_ge i xs.length with h | h
  ·exact h
  ·rw [List.getElem?_eq_none h] at hx;cases hx
 obtain ⟨g,cap,hv,hb,_⟩:=ho.form (by omega)
 have h1:=(hk i x hx).1
 have hv':=hv
 injection hv with hA
 exact ⟨⟨g,0,none⟩,hA,hb,rfl,ho.cells (g:=g) (by rw [hv'];rfl) _ _ (h1 0 _ rfl),ho.cells (g:=g) (by rw [hv'];rfl) _ _ (h1 1 _ rfl),ho.cells (g:=g) (by rw [hv'];rfl) _ _ (h1 2 _ rfl)⟩
theorem rowTm_term {w:World} {lo:Nat} {V:Value} {xs:List Tm} (h:RowG eTm w lo V xs):∃ K e,V=.slice K xs.length e∧∀ (k:Int) (o:TOwn) (p:Pl),LvS w (fun b=>lo≤b) p.A p.c o.lv→LvS w (fun b=>lo≤b) p.B p.d (.mk 0 0 o.ls)→Fit o.n o.s o.ls→TmS w (fun b=>lo≤b) ⟨p.A,p.c,p.B,p.d,K,e⟩ (.mk k o.n o.s o.lv o.ls xs):=by
 obtain ⟨cs,q,ho,hk⟩:=h
 obtain ⟨K,e,rfl⟩:=own_slice ho
 refine ⟨K,e,rfl,fun k o p hl hs hf=>.mk q hl hs (own_cap ho) (own_max ho) hf (fun i x hx=>?_) (fun i x hx=>TmS.mono (hk i x hx).2 fun b hb _=>hb.1)⟩
 have hi:i<xs.length:=by
  rcases Nat.lt_or_ge i xs.length with h | h
  ·exact h
  ·rw [List.getElem?_eq_none h] at hx;cases hx
 obtain ⟨g,cap,hv,hb,_⟩:=ho.form (by omega)
 have hv':=hv
 injection hv with hA
 refine ⟨g,0,hA,hb,fun j v hjv=>?_⟩
 have:=ho.cells (g:=g) (by rw [hv'];rfl) _ _ ((hk i x hx).1 j v hjv)
 rwa [show (⟨g,0,none⟩:Addr).add (i * eTm.sz+j)=⟨g,0+(i * 8+j),none⟩ from add_flat g 0 _,← Nat.add_assoc] at this
theorem tmRd_fin {w W:World} {g gO:Nat} {k:Int} {o:TOwn} {p:Pl} {K:Option Addr} {L e:Nat} {l:List Tm} {R:Except Int (Tm × List Int × Int)} (hb:TmBx w W g gO k o p (.slice K L e)) (hL:L=l.length) (hl:RowG eTm W (gO+1) (.slice K L e) l) (hR:TmSt W g (.mk k o.n o.s o.lv o.ls l) R) (W':World) (hch:Chg (fun k=>k=w.heap.size) W W') :
  TmRd w g R (.returned (.agg #[.int .i64 k,.int .i64 o.n,.string o.s,.int .i64 o.lv.kind,.int .i64 o.lv.num,.slice p.A o.lv.kids.length p.c,.slice p.B o.ls.length p.d,.slice K L e])) W':=by
 subst hL
 have hfar:=hb.far
 have hglt:=hb.glt
 have hz:=hb.chg.size
 obtain ⟨K2,e2,he,ht⟩:=rowTm_term hl
 injection he with e1 _ e3
 subst e1;subst e3
 have ht2:=ht k o p (hb.lvs.mono fun b hb _=>hb) (hb.lss.mono fun b hb _=>hb) hb.fit
 refine ⟨⟨p.A,p.c,p.B,p.d,K,e⟩,_,rfl,(ht2.same fun b hb' hz=>hch.block b hz (by omega)).mono fun b hb' _=>by omega,?_,?_⟩
 ·refine ⟨hch.os.trans hb.chg.os,hch.tape.trans hb.chg.tape,hch.output.trans hb.chg.output,Nat.le_trans hb.chg.size hch.size,fun i hi hs=>?_⟩
  rw [hch.block i (Nat.lt_of_lt_of_le hi hb.chg.size) (by omega),hb.chg.block i hi hs]
 ·exact hR.chg (S:=fun k=>k=w.heap.size) (fun k e=>by omega) hch
theorem tmRd_fin0 {w W:World} {g gO:Nat} {k e:Int} {p:Pl} (hp:p=⟨none,0,none,0,none,0⟩) (hb:TmBx w W g gO k o0 p (.slice none 0 0)) (hR:RdBad W g e) (W':World) (hch:Chg (fun k=>k=w.heap.size) W W') :
  TmRd w g (.error e) (.returned (.agg #[.int .i64 k,.int .i64 0,.string ⟨#[]⟩,.int .i64 0,.int .i64 0,.slice none 0 0,.slice none 0 0,.slice none 0 0])) W':=by
 subst hp
 exact tmRd_fin (R:=.error e) (l:=[]) hb rfl (RowG.nil _ _ _) hR W' hch
theorem row8t {w:World} {g:Nat} {v0 v1 v2 v3 v4 v5 v6 v7:Value} {t:TypeId} (h:w.heap[g]?=some (.cells #[v0,v1,v2,v3,v4,v5,v6,v7] t (0,0))) :
  (w.cell? ⟨g,0,none⟩=some v0∧w.cell? ⟨g,1,none⟩=some v1∧w.cell? ⟨g,2,none⟩=some v2∧w.cell? ⟨g,3,none⟩=some v3∧w.cell? ⟨g,4,none⟩=some v4∧w.cell? ⟨g,5,none⟩=some v5∧w.cell? ⟨g,6,none⟩=some v6∧w.cell? ⟨g,7,none⟩=some v7) ∧
  (w.frozen? ⟨g,0,none⟩=false∧w.frozen? ⟨g,1,none⟩=false∧w.frozen? ⟨g,2,none⟩=false∧w.frozen? ⟨g,3,none⟩=false∧w.frozen? ⟨g,4,none⟩=false∧w.frozen? ⟨g,5,none⟩=false∧w.frozen? ⟨g,6,none⟩=false∧w.frozen? ⟨g,7,none⟩=false):=by
 refine ⟨⟨?_,?_,?_,?_,?_,?_,?_,?_⟩,blk_frozen h 0,blk_frozen h 1,blk_frozen h 2,blk_frozen h 3,blk_frozen h 4,blk_frozen h 5,blk_frozen h 6,blk_frozen h 7⟩ <;> (rw [cell_of_row _ _ _ _ _ _ h];rfl)
end Go.Proofs.Ytcgkeolgflphiaa

namespace Go.Proofs.Ytcgkeolgflphiaa
open Go.RowKit Go.Proofs.YtcgkeolgflphiaaW.PrintWords Go.RegionInvYtcgkeolgflphiaa

set_option maxHeartbeats 4000000 in
theorem term_bad (g:Nat) (d er:Int) (w:World) (hk0:∀ W,Below w.heap.size w W→Calls Try.prog 86 #[.pointer (some ⟨g,0,none⟩),.int .i64 7] W fun e w'=>e=.returned (.int .i64 0)∧Chg (fun k=>k=g) W w'∧RdBad w' g er) (hgl:g<w.heap.size) (he:er≠0) :
  Calls Try.prog 107 #[.pointer (some ⟨g,0,none⟩),.int .i64 d] w (TmRd w g (.error er)):=by
 have HE:=Ak he
 have HK:=Ak hk0
 have HGL:=Ak hgl
 clear hk0 hgl he
 go_enter Try.func107,Try.ntmps107
 go_upto_region 2 with (go_at_call 86;go_must (refine (HK.out _ (below_alloc (Below.refl _ _) _)).mono ?_;rintro e w2 ⟨rfl,hc,hbad⟩;have HBX:=Ak (tmBx_new (k:=0) HGL.out hc);have HBAD:=Ak (RdBad.below hbad (below_alloc (Below.refl _ _) (tzO 0)));clear hc hbad))
 obtain ⟨gO,hgO⟩:∃ gO,gO=w2.heap.size:=⟨_,rfl⟩
 rw [← hgO] at HBX ⊢
 obtain ⟨W3,hW3⟩:∃ W3,W3=w2.alloc (tzO 0):=⟨_,rfl⟩
 rw [← hW3] at HBX HBAD ⊢
 clear hW3 hgO
 obtain ⟨A3,n3,c3',N3,m3,hg3⟩:=HBAD.out
 obtain ⟨c0,c1,c2,c3,z0,z1,z2,z3⟩:=row4 hg3
 have HG3:=Ak hg3
 clear hg3
 go_upto_region 3 with (fail)
 obtain ⟨mm,hmm⟩:∃ mm,mm=wrap64 (N3+1):=⟨_,rfl⟩
 rw [← hmm]
 clear c0 c1 c2 c3 z0 z1 z2 z3 hmm
 have HG4:=Ak (rd4_1 (x:=.int .i64 mm) HG3.out)
 have HB4:=Ak (HBX.out.reader (chg_set W3 g 1 (.int .i64 mm)))
 obtain ⟨W4,hW4⟩:∃ W4,W4=W3.setCell ⟨g,1,none⟩ (.int .i64 mm):=⟨_,rfl⟩
 rw [← hW4] at HG4 HB4 ⊢
 clear hW4 HBX HG3 HBAD
 obtain ⟨c0,c1,c2,c3,z0,z1,z2,z3⟩:=row4 HG4.out
 obtain ⟨⟨d0,d1,d2,d3,d4,d5,d6,d7⟩,-⟩:=row8t HB4.out.out
 obtain ⟨⟨e0,e1,e2,e3,e4,e5,e6,e7⟩,x0,x1,x2,x3,x4,x5,x6,x7⟩:=row8t HB4.out.res
 by_cases hd:64<d
 ·have hd':decide (64<d)=true:=decide_eq_true hd
  clear hd
  go_wp2_with (go_at_call 104;go_must (refine (fail_bad g A3 n3 c3' mm m3 er 2 _ _ HG4.out HE.out).mono ?_;rintro e w' ⟨rfl,hw⟩;subst hw))
  refine bodyPost_ret (results_c rfl _ _ w.heap.size 27 #[.int .i64 0,.int .i64 0,.string ⟨#[]⟩,.int .i64 0,.int .i64 0,.slice none 0 0,.slice none 0 0,.slice none 0 0] (0,0) _ rfl (set8 HB4.out.res) Try.underlying27 rfl (by kernel_rfl)) rfl ?_
  exact tmRd_fin0 rfl HB4.out ⟨_,_,_,_,_,HG4.out⟩ _ (chg_set8 _ _ _ _ _ _ _ _ _ _)
 ·have hd':decide (64<d)=false:=decide_eq_false hd
  clear hd
  go_wp2_with (go_at_call 104;go_must (refine (fail_bad g A3 n3 c3' mm m3 er 2 _ _ HG4.out HE.out).mono ?_;rintro e w' ⟨rfl,hw⟩;subst hw))
  refine bodyPost_ret (results_c rfl _ _ w.heap.size 27 #[.int .i64 0,.int .i64 0,.string ⟨#[]⟩,.int .i64 0,.int .i64 0,.slice none 0 0,.slice none 0 0,.slice none 0 0] (0,0) _ rfl (set8 HB4.out.res) Try.underlying27 rfl (by kernel_rfl)) rfl ?_
  exact tmRd_fin0 rfl HB4.out ⟨_,_,_,_,_,HG4.out⟩ _ (chg_set8 _ _ _ _ _ _ _ _ _ _)
set_option maxHeartbeats 4000000 in
theorem term_deep (g:Nat) (xs r:List Int) (N m d k:Int) (w:World) (h:RdOk w g xs N m) (hK:kindR 7 xs=.ok (k,r)) (hm0:0≤N) (hm1:N≤400) (hd:64<d∨400<N+1) :
  Calls Try.prog 107 #[.pointer (some ⟨g,0,none⟩),.int .i64 d] w (TmRd w g (.error 2)):=by
 have HK:=Ak hK
 have HR:=Ak h
 have HGL:=Ak h.lt
 have HD:=Ak hd
 clear h hK hd
 go_enter Try.func107,Try.ntmps107
 go_upto_region 2 with (go_at_call 86;go_must (refine (kind_calls g xs N m 7 _ (HR.out.below (below_alloc (Below.refl _ _) _)) (by decide) (by decide)).mono ?_;rintro e w2 ⟨hc,hm⟩;rw [HK.out] at hm;obtain ⟨rfl,hok⟩:=hm;have HBX:=Ak (tmBx_new (k:=k) HGL.out hc);have HOK:=Ak (RdOk.below hok (below_alloc (Below.refl _ _) (tzO k)));clear hc hok))
 obtain ⟨gO,hgO⟩:∃ gO,gO=w2.heap.size:=⟨_,rfl⟩
 rw [← hgO] at HBX ⊢
 obtain ⟨W3,hW3⟩:∃ W3,W3=w2.alloc (tzO k):=⟨_,rfl⟩
 rw [← hW3] at HBX HOK ⊢
 clear hW3 hgO
 obtain ⟨A3,n3,c3',hg3,-⟩:=HOK.out
 obtain ⟨c0,c1,c2,c3,z0,z1,z2,z3⟩:=row4 hg3
 have HG3:=Ak hg3
 clear hg3
 go_upto_region 3 with (fail)
 obtain ⟨mm,hmm⟩:∃ mm,mm=N+1:=⟨_,rfl⟩
 rw [← hmm]
 rw [← hmm] at HD
 clear c0 c1 c2 c3 z0 z1 z2 z3 hmm
 have HG4:=Ak (rd4_1 (x:=.int .i64 mm) HG3.out)
 have HB4:=Ak (HBX.out.reader (chg_set W3 g 1 (.int .i64 mm)))
 obtain ⟨W4,hW4⟩:∃ W4,W4=W3.setCell ⟨g,1,none⟩ (.int .i64 mm):=⟨_,rfl⟩
 rw [← hW4] at HG4 HB4 ⊢
 clear hW4 HBX HG3 HOK
 obtain ⟨c0,c1,c2,c3,z0,z1,z2,z3⟩:=row4 HG4.out
 have HB5:=Ak (HB4.out.reader (chg_set W4 g 3 (.int .i64 2)))
 have hbool:(64<d∧decide (64<d)=true)∨(¬ 64<d∧decide (64<d)=false∧decide (400<mm)=true):=by
  by_cases h:64<d
  ·exact .inl ⟨h,decide_eq_true h⟩
  ·exact .inr ⟨h,decide_eq_false h,decide_eq_true (HD.out.resolve_left h)⟩
 rcases hbool with ⟨-,hd'⟩ | ⟨-,hd',hm'⟩
 ·go_upto_region 4 with (go_at_call 104;go_must (refine (fail_yes g A3 n3 c3' mm m 2 _ HG4.out (by decide)).mono ?_;rintro e w' ⟨rfl,hw⟩;subst hw))
  clear c0 c1 c2 c3 z0 z1 z2 z3
  have HG5:=Ak (rd4_3 (x:=.int .i64 2) HG4.out)
  obtain ⟨W5,hW5⟩:∃ W5,W5=W4.setCell ⟨g,3,none⟩ (.int .i64 2):=⟨_,rfl⟩
  rw [← hW5] at HG5 HB5 ⊢
  clear hW5
  obtain ⟨⟨d0,d1,d2,d3,d4,d5,d6,d7⟩,-⟩:=row8t HB5.out.out
  obtain ⟨⟨e0,e1,e2,e3,e4,e5,e6,e7⟩,x0,x1,x2,x3,x4,x5,x6,x7⟩:=row8t HB5.out.res
  go_wp2
  refine bodyPost_ret (results_c rfl _ _ w.heap.size 27 #[.int .i64 k,.int .i64 0,.string ⟨#[]⟩,.int .i64 0,.int .i64 0,.slice none 0 0,.slice none 0 0,.slice none 0 0] (0,0) _ rfl (set8 HB5.out.res) Try.underlying27 rfl (by kernel_rfl)) rfl ?_
  exact tmRd_fin0 rfl HB5.out ⟨_,_,_,_,_,HG5.out⟩ _ (chg_set8 _ _ _ _ _ _ _ _ _ _)
 ·go_upto_region 4 with (go_at_call 104;go_must (refine (fail_yes g A3 n3 c3' mm m 2 _ HG4.out (by decide)).mono ?_;rintro e w' ⟨rfl,hw⟩;subst hw))
  clear c0 c1 c2 c3 z0 z1 z2 z3
  have HG5:=Ak (rd4_3 (x:=.int .i64 2) HG4.out)
  obtain ⟨W5,hW5⟩:∃ W5,W5=W4.setCell ⟨g,3,none⟩ (.int .i64 2):=⟨_,rfl⟩
  rw [← hW5] at HG5 HB5 ⊢
  clear hW5
  obtain ⟨⟨d0,d1,d2,d3,d4,d5,d6,d7⟩,-⟩:=row8t HB5.out.out
  obtain ⟨⟨e0,e1,e2,e3,e4,e5,e6,e7⟩,x0,x1,x2,x3,x4,x5,x6,x7⟩:=row8t HB5.out.res
  go_wp2
  refine bodyPost_ret (results_c rfl _ _ w.heap.size 27 #[.int .i64 k,.int .i64 0,.string ⟨#[]⟩,.int .i64 0,.int .i64 0,.slice none 0 0,.slice none 0 0,.slice none 0 0] (0,0) _ rfl (set8 HB5.out.res) Try.underlying27 rfl (by kernel_rfl)) rfl ?_
  exact tmRd_fin0 rfl HB5.out ⟨_,_,_,_,_,HG5.out⟩ _ (chg_set8 _ _ _ _ _ _ _ _ _ _)
end Go.Proofs.Ytcgkeolgflphiaa

namespace Go.Proofs.Ytcgkeolgflphiaa
open Go.RowKit Go.Proofs.YtcgkeolgflphiaaW.PrintWords Go.RegionInvYtcgkeolgflphiaa

def OwnSt (W:World) (g:Nat) (N:Int) (o:TOwn):Except Int (TOwn × List Int)→Prop
 | .ok (o',r)=>o=o'∧∃ m,RdOk W g r N m
 | .error e=>RdBad W g e
theorem OwnSt.chg {W W':World} {g:Nat} {N:Int} {o:TOwn} {R:Except Int (TOwn × List Int)} {S:Nat→Prop} (h:OwnSt W g N o R) (hS:∀ k,S k→g<k) (hc:Chg S W W'):OwnSt W' g N o R:=by
 cases R with
 | error e=>exact RdBad.chg h hS hc
 | ok y=>exact ⟨h.1,by obtain ⟨m,hm⟩:=h.2;exact ⟨m,hm.chg hS hc⟩⟩
theorem fit_n {n:Int} (h:0≤n∧n≤1048576):Fit n ⟨#[]⟩ []:=⟨by omega,by decide,by decide⟩
theorem fit_s {s:ByteArray} {ls:List Lv} (h:s.size≤140737488355328) (hl:ls.length≤6):Fit 0 s ls:=⟨by decide,h,by omega⟩
abbrev pl0:Pl:=⟨none,0,none,0,none,0⟩
theorem own_num {w w6:World} {g gO:Nat} {N m nn:Int} {r:List Int} (hB:Bytes r) (hb:TmBx w w6 g gO 1 o0 pl0 (.slice none 0 0)) (hnn:nn=okNum (numR r)) (hst:NumSt w6 g N m (numR r)) :
  ∃ o p,Aside0 (TmBx w (w6.setCell ⟨gO,1,none⟩ (.int .i64 nn)) g gO 1 o p (.slice none 0 0))∧Aside0 (OwnSt (w6.setCell ⟨gO,1,none⟩ (.int .i64 nn)) g N o (tmOwn 1 r))∧Aside0 (0<tmKids 1→o=o0∧p=pl0):=by
 have hf:=okNum_fit hB
 have h1:=hb.far
 have h2:=hb.glt
 refine ⟨⟨nn,⟨#[]⟩,.mk 0 0 [],[]⟩,pl0,⟨hb.upd (chg_set _ _ _ _) (blk_put hb.out 1 _ rfl) (LvS.leaf0 _ _ _ _) (LvS.leaf0 _ _ _ _) (fit_n (by rw [hnn];exact hf))⟩,⟨?_⟩,⟨fun h=>absurd h (by decide)⟩⟩
 have hst':=hst.chg (S:=fun k=>k=gO) (fun k e=>by omega) (chg_set w6 gO 1 (.int .i64 nn))
 unfold tmOwn
 rw [if_pos rfl]
 cases hn:numR r with
 | error e=>rw [hn] at hst';exact hst'
 | ok x=>rw [hn] at hst' hnn;exact ⟨by rw [hnn];rfl,m,hst'⟩
theorem own_lv {w w6:World} {g gO B c:Nat} {N:Int} {r:List Int} {A:Option Addr} {l:Lv} (hb:TmBx w w6 g gO 2 o0 pl0 (.slice none 0 0)) (hl:LvS w6 (fun b=>B≤b) A c l) (hB:gO<B) (hst:RdSt w6 g N l (lvR 32 r 0)) :
  ∃ o p,Aside0 (TmBx w (((w6.setCell ⟨gO,3,none⟩ (.int .i64 l.kind)).setCell ⟨gO,4,none⟩ (.int .i64 l.num)).setCell ⟨gO,5,none⟩ (.slice A l.kids.length c)) g gO 2 o p (.slice none 0 0))∧Aside0 (OwnSt (((w6.setCell ⟨gO,3,none⟩ (.int .i64 l.kind)).setCell ⟨gO,4,none⟩ (.int .i64 l.num)).setCell ⟨gO,5,none⟩ (.slice A l.kids.length c)) g N o (tmOwn 2 r))∧Aside0 (0<tmKids 2→o=o0∧p=pl0):=by
 have h1:=hb.far
 have h2:=hb.glt
 refine ⟨⟨0,⟨#[]⟩,l,[]⟩,⟨A,c,none,0,none,0⟩,⟨hb.upd (chg_set3' _ _ _ _ _ _ _ _) (blk_put (blk_put (blk_put hb.out 3 _ rfl) 4 _ rfl) 5 _ rfl) (hl.mono fun b hb _=>by omega) (LvS.leaf0 _ _ _ _) (fit_n (n:=0) (by decide))⟩,⟨?_⟩,⟨fun h=>absurd h (by decide)⟩⟩
 have hst':=hst.chg (S:=fun k=>k=gO) (fun k e=>by omega) (chg_set3' w6 gO 3 4 5 (.int .i64 l.kind) (.int .i64 l.num) (.slice A l.kids.length c))
 unfold tmOwn
 rw [if_neg (by decide),if_pos rfl]
 unfold lev1
 cases hn:lvR 32 r 0 with
 | error e=>rw [hn] at hst';exact hst'
 | ok x=>rw [hn] at hst';exact ⟨by rw [hst'.1],_,hst'.2⟩
theorem TmBx.named {w w6:World} {g gO:Nat} {s:ByteArray} (hb:TmBx w w6 g gO 7 o0 pl0 (.slice none 0 0)) (hs:s.size≤140737488355328):TmBx w (w6.setCell ⟨gO,2,none⟩ (.string s)) g gO 7 ⟨0,s,.mk 0 0 [],[]⟩ pl0 (.slice none 0 0):=
 hb.upd (chg_set _ _ _ _) (blk_put hb.out 2 _ rfl) (LvS.leaf0 _ _ _ _) (LvS.leaf0 _ _ _ _) (fit_s (ls:=[]) hs (by decide))
theorem NameSt.chg {W W':World} {g:Nat} {N m:Int} {s:ByteArray} {R:Except Int (ByteArray × List Int)} {S:Nat→Prop} (h:NameSt W g N m s R) (hS:∀ k,S k→g<k) (hc:Chg S W W'):NameSt W' g N m s R:=by
 cases R with
 | error e=>exact RdBad.chg h hS hc
 | ok y=>exact ⟨h.1,RdOk.chg h.2 hS hc⟩
theorem own_const {w w6:World} {g gO lo d:Nat} {N m:Int} {r r0:List Int} {s s':ByteArray} {B:Option Addr} {l:List Lv} {k:Int} (hk:k=7) (hb:TmBx w w6 g gO k ⟨0,s,.mk 0 0 [],[]⟩ pl0 (.slice none 0 0)) (hn:nameR r=.ok (s',r0)) (hs:s=s') (hl:LvS w6 (fun b=>lo≤b) B d (.mk 0 0 l)) (hB:gO<lo) (hst:ListSt w6 g N m l (listR 6 lev1 r0)) :
  ∃ o p,Aside0 (TmBx w (w6.setCell ⟨gO,6,none⟩ (.slice B l.length d)) g gO k o p (.slice none 0 0))∧Aside0 (OwnSt (w6.setCell ⟨gO,6,none⟩ (.slice B l.length d)) g N o (tmOwn k r))∧Aside0 (0<tmKids k→o=o0∧p=pl0):=by
 subst hk
 have h1:=hb.far
 have h2:=hb.glt
 have hlen:l.length≤6:=by
  cases hR:listR 6 lev1 r0 with
  | error e=>rw [hR] at hst;rw [hst.1];decide
  | ok x=>rw [hR] at hst;rw [hst.1];have:=list_len hR (by decide);omega
 refine ⟨⟨0,s,.mk 0 0 [],l⟩,⟨none,0,B,d,none,0⟩,⟨hb.upd (chg_set _ _ _ _) (blk_put hb.out 6 _ rfl) (LvS.leaf0 _ _ _ _) (hl.mono fun b hb _=>by omega) (fit_s hb.fit.2.1 hlen)⟩,⟨?_⟩,⟨fun h=>absurd h (by decide)⟩⟩
 unfold tmOwn
 rw [if_neg (by decide),if_neg (by decide),if_pos rfl,hn]
 simp only []
 cases hR:listR 6 lev1 r0 with
 | error e =>
  rw [hR] at hst
  exact RdBad.chg (S:=fun k=>k=gO) hst.2 (fun k e=>by omega) (chg_set _ _ _ _)
 | ok x =>
  rw [hR] at hst
  exact ⟨by rw [hst.1,hs],m,RdOk.chg (S:=fun k=>k=gO) hst.2 (fun k e=>by omega) (chg_set _ _ _ _)⟩
theorem own_const_bad {w w6:World} {g gO:Nat} {N er:Int} {r:List Int} {s:ByteArray} {k:Int} (hk:k=7) (hb:TmBx w w6 g gO k ⟨0,s,.mk 0 0 [],[]⟩ pl0 (.slice none 0 0)) (hn:nameR r=.error er) (hst:RdBad w6 g er) :
  ∃ o p,Aside0 (TmBx w (w6.setCell ⟨gO,6,none⟩ (.slice none 0 0)) g gO k o p (.slice none 0 0))∧Aside0 (OwnSt (w6.setCell ⟨gO,6,none⟩ (.slice none 0 0)) g N o (tmOwn k r))∧Aside0 (0<tmKids k→o=o0∧p=pl0):=by
 subst hk
 have h1:=hb.far
 have h2:=hb.glt
 refine ⟨⟨0,s,.mk 0 0 [],[]⟩,pl0,⟨hb.upd (chg_set _ _ _ _) (blk_put hb.out 6 _ rfl) (LvS.leaf0 _ _ _ _) (LvS.leaf0 _ _ _ _) hb.fit⟩,⟨?_⟩,⟨fun h=>absurd h (by decide)⟩⟩
 unfold tmOwn
 rw [if_neg (by decide),if_neg (by decide),if_pos rfl,hn]
 exact RdBad.chg (S:=fun k=>k=gO) hst (fun k e=>by omega) (chg_set _ _ _ _)
theorem own_none {w w6:World} {g gO:Nat} {N m k:Int} {r:List Int} (h1:k≠1) (h2:k≠2) (h7:k≠7) (hb:TmBx w w6 g gO k o0 pl0 (.slice none 0 0)) (hst:RdOk w6 g r N m) :
  ∃ o p,Aside0 (TmBx w w6 g gO k o p (.slice none 0 0))∧Aside0 (OwnSt w6 g N o (tmOwn k r))∧Aside0 (0<tmKids k→o=o0∧p=pl0):=by
 refine ⟨o0,pl0,⟨hb⟩,⟨?_⟩,⟨fun _=>⟨rfl,rfl⟩⟩⟩
 unfold tmOwn
 rw [if_neg h1,if_neg h2,if_neg h7]
 exact ⟨rfl,m,hst⟩
def TmLs (W:World) (g:Nat) (R:Except Int (List Tm × List Int × Int)) (l:List Tm):Prop:=match R with
 | .ok (l',r,_)=>l=l'∧∃ N m,RdOk W g r N m
 | .error e=>RdBad W g e
def TmLt (W:World) (g:Nat) (l:List Tm):Except Int (List Tm × List Int × Int)→Prop
 | .ok (l',r,N)=>l=l'∧∃ m,RdOk W g r N m
 | .error e=>RdBad W g e
theorem TmLt.chg {W W':World} {g:Nat} {l:List Tm} {R:Except Int (List Tm × List Int × Int)} {S:Nat→Prop} (h:TmLt W g l R) (hS:∀ k,S k→g<k) (hc:Chg S W W'):TmLt W' g l R:=by
 cases R with
 | error e=>exact RdBad.chg h hS hc
 | ok y=>exact ⟨h.1,by obtain ⟨m,hm⟩:=h.2;exact ⟨m,hm.chg hS hc⟩⟩
structure TmLoop (w W:World) (g gO:Nat) (k:Int) (o:TOwn) (p:Pl) (V:Value) (l:List Tm) (R:Except Int (List Tm × List Int × Int)) (j:Nat):Prop where
 bx:TmBx w W g gO k o p V
 kids:RowG eTm W (gO+1) V l
 st:TmLt W g l R
 len:l.length≤j
theorem tmLoop_start {w W:World} {g gO f:Nat} {k N:Int} {o:TOwn} {p:Pl} {R0:Except Int (TOwn × List Int)} (hb:TmBx w W g gO k o p (.slice none 0 0)) (h:OwnSt W g N o R0):TmLoop w W g gO k o p (.slice none 0 0) [] (tmPre f R0 N 0) 0:=by
 refine ⟨hb,RowG.nil _ _ _,?_,Nat.le_refl _⟩
 cases R0 with
 | error er=>exact h
 | ok x=>exact ⟨rfl,h.2⟩
theorem tmLoop_next {w5:World} {g f j:Nat} {m m1:Int} {R0:Except Int (TOwn × List Int)} {l:List Tm} {t:Tm} {r:List Int} (h:tmPre f R0 m j=.ok (l,r,m1)) (hp:TmSt w5 g t (tmR f r m1)):TmLt w5 g (l ++ [t]) (tmPre f R0 m (j+1)):=by
 rw [tmPre_ok h]
 cases hl:tmR f r m1 with
 | error e=>rw [hl] at hp;exact hp
 | ok x=>rw [hl] at hp;exact ⟨by rw [hp.1],hp.2⟩
theorem tmLoop_same {w W:World} {g gO f j:Nat} {k m e:Int} {o:TOwn} {p:Pl} {V:Value} {l:List Tm} {R0:Except Int (TOwn × List Int)} (h:TmLoop w W g gO k o p V l (tmPre f R0 m j) j) (he:tmPre f R0 m j=.error e):TmLoop w W g gO k o p V l (tmPre f R0 m (j+1)) (j+1):=
 ⟨h.bx,h.kids,by rw [tmPre_err he];have:=h.st;rw [he] at this;exact this,Nat.le_succ_of_le h.len⟩
theorem tmLoop_end {w W W':World} {g gO f:Nat} {k m:Int} {o:TOwn} {p:Pl} {K:Option Addr} {L e:Nat} {l:List Tm} {xs r:List Int} {j:Nat} (hK:kindR 7 xs=.ok (k,r)) (hm:m<400) (hj:j=tmKids k)
  (h:TmLoop w W g gO k o p (.slice K L e) l (tmPre f (tmOwn k r) (m+1) j) j) (hL:L=l.length) (ho:∀ o' r',tmOwn k r=.ok (o',r')→o=o') (hch:Chg (fun k=>k=w.heap.size) W W') :
  TmRd w g (tmR (f+1) xs m) (.returned (.agg #[.int .i64 k,.int .i64 o.n,.string o.s,.int .i64 o.lv.kind,.int .i64 o.lv.num,.slice p.A o.lv.kids.length p.c,.slice p.B o.ls.length p.d,.slice K L e])) W':=by
 subst hj
 refine tmRd_fin h.bx hL h.kids ?_ W' hch
 rw [tmR_pre hK hm]
 have hs:=h.st
 cases hp:tmPre f (tmOwn k r) (m+1) (tmKids k) with
 | error e=>rw [hp] at hs;exact hs
 | ok x =>
  obtain ⟨l',r1,m1⟩:=x
  rw [hp] at hs
  cases hr:tmOwn k r with
  | error e=>rw [hr] at hp;cases hp
  | ok y =>
   obtain ⟨o',r'⟩:=y
   have:=ho o' r' hr
   exact ⟨by rw [hs.1,this],hs.2⟩
structure TIn (w W:World) (g gO:Nat) (k:Int) (o:TOwn) (p:Pl) (V:Value) (xs:List Tm) (q:Pl) (x:Tm):Prop where
 bx:TmBx w W g gO k o p V
 kids:RowG eTm W (gO+1) V xs
 kid:TmS W (fun b=>gO+1≤b∧V.ownBlock≠some b) q x
 size:gO+1≤W.heap.size
theorem tin_in {w wr W3 w5:World} {g gO:Nat} {k:Int} {o:TOwn} {p:Pl} {V:Value} {xs:List Tm} {q:Pl} {x:Tm} (hb:TmBx w wr g gO k o p V) (hk:RowG eTm wr (gO+1) V xs) (h3:Below wr.heap.size wr W3) (h5:Chg (fun k=>k=g) W3 w5) (hl:TmS w5 (fun b=>W3.heap.size≤b) q x):TIn w w5 g gO k o p V xs q x:=by
 have hbb:Chg (fun k=>k=g) wr w5:=chg_trans (Chg.of_below h3) h5
 have hlt:=blk_lt hb.out
 have hfar:=hb.far
 have hglt:=hb.glt
 refine ⟨hb.reader hbb,hk.keep hbb (fun k e=>by omega),hl.mono fun b hb' _=>⟨by have:=h3.size;omega,fun e=>?_⟩,by have:=hbb.size;omega⟩
 obtain ⟨cells,q,hown,_⟩:=hk
 have:=own_lt hown b e
 have:=h3.size
 omega
theorem TmBx.below {w W W':World} {g gO:Nat} {k:Int} {o:TOwn} {p:Pl} {V:Value} (h:TmBx w W g gO k o p V) (hb:Below W.heap.size W W'):TmBx w W' g gO k o p V:=h.reader (Chg.of_below hb)
theorem TIn.drew {w W:World} {g gO:Nat} {k:Int} {o:TOwn} {p:Pl} {V:Value} {xs:List Tm} {q:Pl} {x:Tm} (h:TIn w W g gO k o p V xs q x):TIn w W.drew g gO k o p V xs q x:=
 ⟨h.bx.below (below_drew (Below.refl _ _)),h.kids.later (below_drew (Below.refl _ _)),h.kid.later (below_drew (Below.refl _ _)),h.size⟩
theorem TIn.cell {w W:World} {g gO:Nat} {k:Int} {o:TOwn} {p:Pl} {V:Value} {xs:List Tm} {q:Pl} {x:Tm} (h:TIn w W g gO k o p V xs q x):W.cell? ⟨gO,7,none⟩=some V:=by
 rw [cell_of_row _ _ _ _ _ _ h.bx.out];rfl
theorem TIn.cell2 {w W:World} {g gO:Nat} {k:Int} {o:TOwn} {p:Pl} {V:Value} {xs:List Tm} {q:Pl} {x:Tm} (h:TIn w W g gO k o p V xs q x) (ob:Obj):(W.alloc ob).cell? ⟨gO,7,none⟩=some V:=by
 rw [cell_of_row _ _ _ _ _ _ (blk_alloc h.bx.out ob)];rfl
structure TOut (w W5 W:World) (g gO:Nat) (k:Int) (o:TOwn) (p:Pl) (V V6:Value) (xs:List Tm):Prop where
 bx:TmBx w W g gO k o p V
 kids:RowG eTm W (gO+1) V6 xs
 chg:Chg (fun k=>g<k) W5 W
theorem TOut.cell {w W5 W:World} {g gO:Nat} {k:Int} {o:TOwn} {p:Pl} {V V6:Value} {xs:List Tm} (h:TOut w W5 W g gO k o p V V6 xs):W.cell? ⟨gO,7,none⟩=some V:=by
 rw [cell_of_row _ _ _ _ _ _ h.bx.out];rfl
theorem tin_push {w w5 w6:World} {g gO:Nat} {k:Int} {V v6:Value} {xs:List Tm} {q:Pl} {x:Tm} {cs:List Value} {qq:Nat→Pl} (h:TIn w w5 g gO k o0 pl0 V xs q x)
  (ho:w5.ownsRow (gO+1) eTm.ty eTm.sz V xs.length cs)
  (hk:∀ (i:Nat) (x:Tm),xs[i]?=some x→(∀ (j:Nat) (v:Value),(eTm.cells (qq i) x)[j]?=some v→cs[i * eTm.sz+j]?=some v)∧eTm.mem w5 (fun b=>gO+1≤b∧V.ownBlock≠some b) (qq i) x)
  (ho1:w6.ownsRow (gO+1) eTm.ty eTm.sz v6 (xs.length+1) (cs ++ eTm.cells q x)) (hg:w5.grownBy w6 V.ownBlock) (hat:v6.ownBlock=V.ownBlock∨∃ b,v6.ownBlock=some b∧w5.heap.size≤b):TOut w w5 w6 g gO k o0 pl0 V v6 (xs ++ [x]):=by
 have far:∀ k,k<gO+1→some k≠V.ownBlock:=fun k hk e=>by have:=own_base ho k e.symm;omega
 have hfar:=h.bx.far
 have hglt:=h.bx.glt
 have hch:Chg (fun k=>gO+1≤k) w5 w6:=⟨hg.os,hg.tape,hg.output,hg.size,fun i hi hn=>hg.block i hi (far i (by omega))⟩
 refine ⟨⟨(hch.block _ (blk_lt h.bx.out) (by omega)).trans h.bx.out,(hch.block _ (blk_lt h.bx.res) (by omega)).trans h.bx.res,?_,hfar,hglt,LvS.leaf0 _ _ _ _,LvS.leaf0 _ _ _ _,h.bx.fit⟩,RowG.push ho hk h.kid ho1 hg hat,hch.mono fun i hi=>by omega⟩
 refine ⟨hch.os.trans h.bx.chg.os,hch.tape.trans h.bx.chg.tape,hch.output.trans h.bx.chg.output,Nat.le_trans h.bx.chg.size hch.size,fun i hi hs=>?_⟩
 rw [hch.block i (Nat.lt_of_lt_of_le hi h.bx.chg.size) (by omega),h.bx.chg.block i hi hs]
theorem tout_fin {w w5 w6:World} {g gO j:Nat} {k:Int} {V V6:Value} {xs:List Tm} {R:Except Int (List Tm × List Int × Int)} (h:TOut w w5 w6 g gO k o0 pl0 V V6 xs) (hst:TmLt w5 g xs R) (hl:xs.length≤j) :
  ∃ v5 l5,Aside0 (TmLoop w (w6.setCell ⟨gO,7,none⟩ V6) g gO k o0 pl0 v5 l5 R j):=by
 have hfar:=h.bx.far
 have hglt:=h.bx.glt
 exact ⟨V6,xs,⟨h.bx.upd (chg_set _ _ _ _) (blk_put h.bx.out 7 _ rfl) (LvS.leaf0 _ _ _ _) (LvS.leaf0 _ _ _ _) h.bx.fit,h.kids.keep (chg_set _ _ _ _) (fun k e=>by omega),(hst.chg (S:=fun k=>g<k) (fun _ h=>h) h.chg).chg (S:=fun k=>k=gO) (fun k e=>by omega) (chg_set _ _ _ _),hl⟩⟩
theorem tmKids_le (k:Int):tmKids k≤3:=by unfold tmKids;split;decide;split <;> decide
end Go.Proofs.Ytcgkeolgflphiaa

namespace Go.Proofs.Ytcgkeolgflphiaa
open Go.RowKit Go.Proofs.YtcgkeolgflphiaaW.PrintWords Go.RegionInvYtcgkeolgflphiaa

theorem infoTmD:(Try.prog.info? 27).map (fun i=>(i.zero,i.size,i.bytes))=some (some (.agg #[.int .i64 0,.int .i64 0,.string ⟨#[]⟩,.int .i64 0,.int .i64 0,.slice none 0 0,.slice none 0 0,.slice none 0 0]),8,120):=by kernel_rfl
set_option maxRecDepth 100000 in
set_option maxHeartbeats 8000000 in
theorem term_step (f:Nat) (IH0:∀ (g:Nat) (xs:List Int) (N m d:Int) (w:World),1≤d→(f:Int)+d=65→0≤N→N≤400→RdOk w g xs N m→Calls Try.prog 107 #[.pointer (some ⟨g,0,none⟩),.int .i64 d] w (TmRd w g (tmR f xs N)))
  (g:Nat) (xs r:List Int) (N m d k:Int) (w:World) (hd0:1≤d) (hd:(f:Int)+1+d=65) (hm0:0≤N) (hm1:N<400) (h:RdOk w g xs N m) (hK:kindR 7 xs=.ok (k,r)) :
  Calls Try.prog 107 #[.pointer (some ⟨g,0,none⟩),.int .i64 d] w (TmRd w g (tmR (f+1) xs N)):=by
 have HK:=Ak hK
 have HR:=Ak h
 have HGL:=Ak h.lt
 have IH:=Ak IH0
 have hk:=(kind_put hK).2
 have hd1:d≤64:=by omega
 have HBY:=Ak (h.bytes.right (ys:=[k]) (zs:=r) (kind_put hK).1)
 clear h hK IH0
 go_enter Try.func107,Try.ntmps107
 go_upto_region 2 with (go_at_call 86;go_must (refine (kind_calls g xs N m 7 _ (HR.out.below (below_alloc (Below.refl _ _) _)) (by decide) (by decide)).mono ?_;rintro e w2 ⟨hc,hm⟩;rw [HK.out] at hm;obtain ⟨rfl,hok⟩:=hm;have HBX:=Ak (tmBx_new (k:=k) HGL.out hc);have HOK:=Ak (RdOk.below hok (below_alloc (Below.refl _ _) (tzO k)));clear hc hok))
 obtain ⟨gO,hgO⟩:∃ gO,gO=w2.heap.size:=⟨_,rfl⟩
 rw [← hgO] at HBX ⊢
 obtain ⟨W3,hW3⟩:∃ W3,W3=w2.alloc (tzO k):=⟨_,rfl⟩
 rw [← hW3] at HBX HOK ⊢
 have HSO:=Ak (show gO<W3.heap.size by rw [hW3,hgO];simp)
 clear hW3 hgO
 obtain ⟨A3,n3,c3',hg3,hs3⟩:=HOK.out
 obtain ⟨c0,c1,c2,c3,z0,z1,z2,z3⟩:=row4 hg3
 have HG3:=Ak hg3
 have HS3:=Ak hs3
 clear hg3 hs3
 go_upto_region 3 with (fail)
 have hmm0:0≤N+1:=by omega
 have hmm1:N+1≤400:=by omega
 obtain ⟨mm,hmm⟩:∃ mm,mm=N+1:=⟨_,rfl⟩
 rw [← hmm] at hmm0 hmm1 ⊢
 have HMM:=Ak hmm
 clear c0 c1 c2 c3 z0 z1 z2 z3 hmm
 have HG4:=Ak (rd4_1 (x:=.int .i64 mm) HG3.out)
 have HB4:=Ak (HBX.out.reader (chg_set W3 g 1 (.int .i64 mm)))
 have HS4:=Ak (HS3.out.chg (Nat.le_of_lt (blk_lt HG3.out)) (fun k e=>Nat.le_of_eq e.symm) (chg_set W3 g 1 (.int .i64 mm)))
 obtain ⟨W4,hW4⟩:∃ W4,W4=W3.setCell ⟨g,1,none⟩ (.int .i64 mm):=⟨_,rfl⟩
 rw [← hW4] at HG4 HB4 HS4 ⊢
 have HSO4:=Ak (show gO<W4.heap.size by rw [hW4,World.size_setCell];exact HSO.out)
 clear hW4 HBX HG3 HOK HS3 HSO
 obtain ⟨c0,c1,c2,c3,z0,z1,z2,z3⟩:=row4 HG4.out
 have hd':decide (64<d)=false:=decide_eq_false (by omega)
 have hm':decide (400<mm)=false:=decide_eq_false (by omega)
 go_upto_region 5 with (go_at_call 104;go_must (refine (fail_no g A3 n3 c3' mm m 2 _ HG4.out).mono ?_;rintro e w' ⟨rfl,hw⟩;subst hw))
 have HOK:=Ak (show RdOk w' g r mm m from ⟨A3,n3,c3',HG4.out,HS4.out⟩)
 clear HG4 HS4 c0 c1 c3 z0 z1 z3
 obtain ⟨⟨d0,d1,d2,d3,d4,d5,d6,d7⟩,y0,y1,y2,y3,y4,y5,y6,y7⟩:=row8t HB4.out.out
 obtain ⟨K,hKK⟩:∃ K,K=tmKids k:=⟨_,rfl⟩
 have HKK:=Ak hKK
 go_upto_block 0 with (fail)
 go_cut [6] (fun u w5=>u=.int .i64 K∧∃ o p,Aside0 (TmBx w w5 g gO k o p (.slice none 0 0))∧Aside0 (OwnSt w5 g mm o (tmOwn k r))∧Aside0 (0<tmKids k→o=o0∧p=pl0))
 case first =>
  by_cases k1:k=1
  ·subst k1
   rw [show tmKids 1=0 from rfl] at hKK
   subst hKK
   go_wp2_with (go_at_call 88;go_must (refine (number_calls g r mm m _ HOK.out).mono ?_;rintro e w6 hp;obtain ⟨n6,rfl,hn6,hc,hst⟩:=NumPost.one hp;have HB6:=Ak (HB4.out.reader hc);have HST:=Ak hst;have HN6:=Ak hn6;clear hn6 hc hst hp;obtain ⟨⟨-,a1,-⟩,-,b1,-⟩:=row8t HB6.out.out))
   go_meet
   case rel=>exact ⟨rfl,own_num HBY.out HB6.out HN6.out HST.out⟩
  ·have hk1:(k == 1)=false:=by simp [k1]
   by_cases k2:k=2
   ·subst k2
    rw [show tmKids 2=0 from rfl] at hKK
    subst hKK
    go_upto_region 11 with (fail)
    have HR5:=Ak (HOK.out.setm 0)
    have HB5:=Ak (HB4.out.reader (chg_set w' g 2 (.int .i64 0)))
    obtain ⟨W5,hW5⟩:∃ W5,W5=w'.setCell ⟨g,2,none⟩ (.int .i64 0):=⟨_,rfl⟩
    rw [← hW5] at HR5 HB5 ⊢
    have HSO5:=Ak (show gO<W5.heap.size by rw [hW5,World.size_setCell];exact HSO4.out)
    clear hW5
    go_wp2_with (go_at_call 119;go_must (refine (level_calls 32 g r mm 0 1 _ (by decide) (by decide) (by decide) (by decide) HR5.out).mono ?_;rintro e w6 ⟨A6,c6,l6,rfl,hl6,hc6,hst6⟩;have HB6:=Ak (HB5.out.reader hc6);have HL6:=Ak hl6;have HST6:=Ak hst6;clear hl6 hc6 hst6;simp only [lvV];obtain ⟨⟨-,-,-,a3,a4,a5,-⟩,-,-,-,b3,b4,b5,-⟩:=row8t HB6.out.out))
    go_meet
    case rel=>exact ⟨rfl,own_lv HB6.out HL6.out HSO5.out HST6.out⟩
   ·have hk2:(k == 2)=false:=by simp [k2]
    by_cases k7:k=7
    ·have HK7:=Ak k7
     have hk7:(k == 7)=true:=by simp [k7]
     rw [show tmKids k=0 by rw [k7];rfl] at hKK
     subst hKK
     clear k1 k2 k7
     go_upto_region 14 with (go_at_call 87;go_must (refine (rname_calls g r mm m _ HOK.out).mono ?_;rintro e w6 ⟨s6,rfl,hsz,hc6,hst6⟩;have HB6:=Ak (HB4.out.reader hc6);have HSZ:=Ak hsz;have HST6:=Ak hst6;have HZ6:=Ak hc6.size;clear hsz hc6 hst6;obtain ⟨⟨-,-,a2,-⟩,-,-,b2,-⟩:=row8t HB6.out.out))
     have HBN:=Ak (show TmBx w (w6.setCell ⟨gO,2,none⟩ (.string s6)) g gO k ⟨0,s6,.mk 0 0 [],[]⟩ pl0 (.slice none 0 0) by have h:=HB6.out;rw [HK7.out] at h ⊢;exact h.named HSZ.out)
     have HSN:=Ak (HST6.out.chg (S:=fun k=>k=gO) (fun k e=>by have:=HB6.out.far;have:=HB6.out.glt;omega) (chg_set w6 gO 2 (.string s6)))
     obtain ⟨W7,hW7⟩:∃ W7,W7=w6.setCell ⟨gO,2,none⟩ (.string s6):=⟨_,rfl⟩
     rw [← hW7] at HBN HSN ⊢
     have HSO7:=Ak (show gO<W7.heap.size by rw [hW7,World.size_setCell];exact Nat.lt_of_lt_of_le HSO4.out HZ6.out)
     clear hW7
     cases hR7:nameR r with
     | error er =>
      have hbad:=HSN.out
      rw [hR7] at hbad
      have HBAD:=Ak hbad
      have HNE:=Ak (name_err hR7)
      have HR7:=Ak hR7
      clear hR7 hbad
      go_wp2_with (go_at_call 120;go_must (refine (listOfLv_bad g er 6 _ HBAD.out HNE.out).mono ?_;rintro e w8 ⟨rfl,hb8⟩;have HB8:=Ak (HBN.out.below hb8);have HBAD8:=Ak (HBAD.out.below hb8);clear hb8;obtain ⟨⟨-,-,-,-,-,-,a6,-⟩,-,-,-,-,-,-,b6,-⟩:=row8t HB8.out.out))
      go_meet
      case rel=>exact ⟨rfl,own_const_bad HK7.out HB8.out HR7.out HBAD8.out⟩
     | ok y =>
      obtain ⟨s',r0⟩:=y
      have hok:=HSN.out
      rw [hR7] at hok
      have HOK7:=Ak hok
      have HR7:=Ak hR7
      clear hR7 hok
      go_wp2_with (go_at_call 120;go_must (refine (listOfLv_calls g r0 mm m 6 _ HOK7.out.2 (by decide) (by decide)).mono ?_;rintro e w8 ⟨V8,l8,rfl,hrow,hc8,hst8⟩;obtain ⟨B8,d8,rfl,hl8⟩:=rowLv_level hrow;have HL8:=Ak hl8;have HST8:=Ak hst8;have HB8:=Ak (HBN.out.reader hc8);clear hrow hl8 hc8 hst8;obtain ⟨⟨-,-,-,-,-,-,a6,-⟩,-,-,-,-,-,-,b6,-⟩:=row8t HB8.out.out))
      go_meet
      case rel=>exact ⟨rfl,own_const HK7.out HB8.out HR7.out HOK7.out.1 HL8.out HSO7.out HST8.out⟩
    ·have hk7:(k == 7)=false:=by simp [k7]
     have HNO:=Ak (own_none (N:=mm) k1 k2 k7 HB4.out HOK.out)
     by_cases k5:k=5
     ·rw [show tmKids k=3 by rw [k5];rfl] at hKK
      subst hKK
      have hk5:(k == 5)=true:=by simp [k5]
      clear k1 k2 k7 k5
      go_wp2
      go_meet
      case rel=>exact ⟨rfl,HNO.out⟩
     ·rw [show tmKids k=2 by unfold tmKids;rw [if_neg (by omega),if_neg k5]] at hKK
      subst hKK
      have hk5:(k == 5)=false:=by simp [k5]
      clear k1 k2 k7 k5
      go_wp2
      go_meet
      case rel=>exact ⟨rfl,HNO.out⟩
 case rest =>
  obtain ⟨rfl,o,p,HB5,HST5,HOP⟩:=hcut
  clear c2 z2 d0 d1 d2 d3 d4 d5 d6 d7 y0 y1 y2 y3 y4 y5 y6 y7 HB4 HOK hd' hm'
  have hK3:K≤3:=by rw [hKK];exact tmKids_le k
  have HOWN:=Ak (show ∀ o' r',tmOwn k r=.ok (o',r')→o=o' from fun o' r' h=>by have h2:=HST5.out;rw [h] at h2;exact h2.1)
  clear hKK
  go_wp2
  go_loopw [55] (fun i wr=>∃ (j:Nat) (V:Value) (l:List Tm),i=.int .i64 j∧j≤K∧Aside0 (TmLoop w wr g gO k o p V l (tmPre f (tmOwn k r) mm j) j)) (fun i _=>K - (intOf i).toNat)
  case atStart=>exact ⟨0,_,_,rfl,Nat.zero_le _,⟨tmLoop_start HB5.out HST5.out⟩⟩
  case round =>
   obtain ⟨j,V,l,rfl,hj,HL⟩:=hrel
   by_cases hlt:j<K
   ·obtain ⟨ho,hp⟩:=HOP.out (by rw [← HKK.out];omega)
    subst ho
    subst hp
    cases hP:tmPre f (tmOwn k r) mm j with
    | error e =>
     have hst:=HL.out.st
     rw [hP] at hst
     obtain ⟨A6,n6,c6,N6,m6,hg6⟩:=hst
     have he':(e == 0)=false:=by simp [tmPre_ne hP]
     obtain ⟨b0,b1,b2,b3,-,-,-,-⟩:=row4 hg6
     have HN:=Ak (tmLoop_same HL.out hP)
     clear hg6 hP
     go_wp2
     go_roundw
     case rel=>exact ⟨j+1,V,l,by go_num,by omega,HN⟩
     case measure=>(simp [intOf];try omega)
    | ok x =>
     obtain ⟨l',r1,m1⟩:=x
     have hst:=HL.out.st
     rw [hP] at hst
     obtain ⟨-,mx,hok⟩:=hst
     have HOK:=Ak hok
     have hgr:=tmPre_grow hP hmm0 hmm1
     have HP:=Ak (show tmPre f (tmOwn k r) mm j=.ok (l,r1,m1) by rw [hP];have:=HL.out.st;rw [hP] at this;rw [this.1])
     have hlen:=HL.out.len
     obtain ⟨A6,n6,c6,hg6,-⟩:=hok
     obtain ⟨b0,b1,b2,b3,-,-,-,-⟩:=row4 hg6
     obtain ⟨⟨-,-,-,-,-,-,-,hcv⟩,-,-,-,-,-,-,-,hcz⟩:=row8t HL.out.bx.out
     clear hP hg6 b0 b1 b2
     go_upto_block 2 with (fail)
     go_cut [] (fun w5=>∃ v5 l5,Aside0 (TmLoop w w5 g gO k o0 pl0 v5 l5 (tmPre f (tmOwn k r) mm (j+1)) (j+1)))
     case first =>
      go_upto_region 20 with (fail)
      have hw9:IntKind.i64.wrap (d+1)=d+1:=IntWalk.i64_in _ (by omega)
      go_region_law (first
       | (go_simp;go_at_call 107;(try rw [hw9]);refine (IH.out g r1 m1 mx (d+1) _ (by omega) (by omega) hgr.1 hgr.2 (HOK.out.below (by repeat' first | exact Below.refl _ _ | apply below_drew | apply below_alloc))).mono ?_;rintro e w5 ⟨q5,t5,rfl,hl5,hc5,hm5⟩;have ST5:=Ak (tin_in HL.out.bx HL.out.kids (by repeat' first | exact Below.refl _ _ | apply below_drew | apply below_alloc) hc5 hl5);have HST5:=Ak (tmLoop_next HP.out hm5);have hcv5:=ST5.out.cell;have hcz5:=blk_frozen ST5.out.bx.out 7;have hcw5:=ST5.out.cell2 (.cells #[.int .i64 t5.kind,.int .i64 t5.num,.string t5.name,.int .i64 t5.lv.kind,.int .i64 t5.lv.num,.slice q5.A t5.lv.kids.length q5.c,.slice q5.B t5.ls.length q5.d,.slice q5.K t5.kids.length q5.e] 27 (0,0));clear hl5 hc5 hm5;simp only [tmV])
       | (first
         | (have STA:=Ak ST5.out;obtain ⟨cells,qq,hown,hkids⟩:=STA.out.kids;refine step_append_cells (w0:=w5) (W:=w5) (gO+1) (by simp [Region.wanted]) (.tmp 63) (.tmp 68) 25 27 _ 8 120 rfl Try.underlying25 infoTmD rfl (by decide) (by decide) V l.length cells (tmC q5 t5) rfl rfl rfl (List.all_eq_true.1 rfl) hown (Below.refl _ _) STA.out.size (by omega) ?_;intro v6 w6 ho6 _ hg6 hat6;obtain ⟨A6,c6,rfl⟩:=own_slice ho6;have ST6:=Ak (tin_push STA.out hown hkids ho6 hg6 hat6);have HSTX:=Ak (HST5.out.chg (S:=fun _=>False) (fun _ h=>h.elim) (Chg.of_below (by repeat' first | exact Below.refl _ _ | apply below_drew)):TmLt w5 g (l ++ [t5]) (tmPre f (tmOwn k r) mm (j+1)));have hcv6:=ST6.out.cell;have hcz6:=blk_frozen ST6.out.bx.out 7;clear hown hkids ho6 hg6 hat6 STA)
         | (have STA:=Ak ST5.out.drew;obtain ⟨cells,qq,hown,hkids⟩:=STA.out.kids;refine step_append_cells (w0:=w5.drew) (W:=w5.drew) (gO+1) (by simp [Region.wanted]) (.tmp 63) (.tmp 68) 25 27 _ 8 120 rfl Try.underlying25 infoTmD rfl (by decide) (by decide) V l.length cells (tmC q5 t5) rfl rfl rfl (List.all_eq_true.1 rfl) hown (Below.refl _ _) STA.out.size (by omega) ?_;intro v6 w6 ho6 _ hg6 hat6;obtain ⟨A6,c6,rfl⟩:=own_slice ho6;have ST6:=Ak (tin_push STA.out hown hkids ho6 hg6 hat6);have HSTX:=Ak (HST5.out.chg (S:=fun _=>False) (fun _ h=>h.elim) (Chg.of_below (by repeat' first | exact Below.refl _ _ | apply below_drew)):TmLt w5.drew g (l ++ [t5]) (tmPre f (tmOwn k r) mm (j+1)));have hcv6:=ST6.out.cell;have hcz6:=blk_frozen ST6.out.bx.out 7;clear hown hkids ho6 hg6 hat6 STA)
         | (trace_state;fail)))
      all_goals (go_wp2;go_meet)
      all_goals (exact tout_fin ST6.out HSTX.out (by simp only [List.length_append,List.length_singleton];omega))
     case rest =>
      clear HL hcv hcz b3 HOK HP hlen
      obtain ⟨V2,l2,HL⟩:=hcut
      go_wp2
      go_roundw
      case rel=>exact ⟨j+1,V2,l2,by go_num,by omega,HL⟩
      case measure=>(simp [intOf];try omega)
   ·obtain rfl:j=K:=by omega
    have hlt':decide ((j:Int)<j)=false:=by simp
    obtain ⟨A9,c9,rfl,-⟩:=rowTm_term HL.out.kids
    obtain ⟨L9,hL9⟩:∃ L9,L9=l.length:=⟨_,rfl⟩
    rw [← hL9] at HL
    have HL9:=Ak hL9
    obtain ⟨⟨d0,d1,d2,d3,d4,d5,d6,d7⟩,-⟩:=row8t HL.out.bx.out
    obtain ⟨⟨e0,e1,e2,e3,e4,e5,e6,e7⟩,x0,x1,x2,x3,x4,x5,x6,x7⟩:=row8t HL.out.bx.res
    clear hL9
    go_wp2
    refine bodyPost_ret (results_c rfl _ _ w.heap.size 27 #[.int .i64 k,.int .i64 o.n,.string o.s,.int .i64 o.lv.kind,.int .i64 o.lv.num,.slice p.A o.lv.kids.length p.c,.slice p.B o.ls.length p.d,.slice A9 L9 c9] (0,0) _ rfl (set8 HL.out.bx.res) Try.underlying27 rfl (by kernel_rfl)) rfl ?_
    have HLX:=HL.out
    rw [HMM.out] at HLX
    exact tmLoop_end HK.out (by omega) HKK.out HLX HL9.out HOWN.out (chg_set8 _ _ _ _ _ _ _ _ _ _)
theorem term_calls:∀ (f:Nat) (g:Nat) (xs:List Int) (N m d:Int) (w:World),1≤d→(f:Int)+d=65→0≤N→N≤400→RdOk w g xs N m→Calls Try.prog 107 #[.pointer (some ⟨g,0,none⟩),.int .i64 d] w (TmRd w g (tmR f xs N))
 | f,g,xs,N,m,d,w,hd1,hd,h0,h1,h=>by
  cases hK:kindR 7 xs with
  | error er =>
   have e:tmR f xs N=.error er:=by cases f <;> rw [tmR,hK]
   rw [e]
   refine term_bad g d er w (fun W hc=>(kind_calls g xs N m 7 W (h.below hc) (by decide) (by decide)).mono ?_) h.lt (kind_err hK)
   rintro e w' ⟨hc,hm⟩
   rw [hK] at hm
   exact ⟨hm.1,hc,hm.2⟩
  | ok x =>
   obtain ⟨k,r⟩:=x
   cases f with
   | zero =>
    rw [tmR,hK]
    exact term_deep g xs r N m d k w h hK h0 h1 (.inl (by omega))
   | succ f =>
    by_cases hm:400<N+1
    ·rw [tmR,hK]
     simp only []
     rw [if_pos hm]
     exact term_deep g xs r N m d k w h hK h0 h1 (.inr hm)
    ·exact term_step f (term_calls f) g xs r N m d k w hd1 (by omega) h0 (by omega) h hK
end Go.Proofs.Ytcgkeolgflphiaa

namespace Go.Proofs.Ytcgkeolgflphiaa
open Go.RowKit Go.Proofs.YtcgkeolgflphiaaW.PrintWords Go.RegionInvYtcgkeolgflphiaa

def RS (W:World) (g:Nat):Except Int (List Int)→Prop
 | .ok xs=>∃ N m,RdOk W g xs N m
 | .error e=>e≠0∧RdBad W g e
def nextR {α:Type} (s:Except Int (List Int)) (f:List Int→Except Int (α × List Int)):Except Int (α × List Int):=match s with
 | .error e=>.error e
 | .ok xs=>f xs
def restR {α:Type}:Except Int (α × List Int)→Except Int (List Int)
 | .error e=>.error e
 | .ok (_,r)=>.ok r
def valIs {α:Type} (x:α):Except Int (α × List Int)→Prop
 | .error _=>True
 | .ok (y,_)=>x=y
theorem RS.chg {W W':World} {g:Nat} {s:Except Int (List Int)} {S:Nat→Prop} (h:RS W g s) (hS:∀ k,S k→g<k) (hc:Chg S W W'):RS W' g s:=by
 cases s with
 | error e=>exact ⟨h.1,h.2.chg hS hc⟩
 | ok x=>obtain ⟨N,m,h⟩:=h;exact ⟨N,m,h.chg hS hc⟩
theorem RS.below {W W':World} {g:Nat} {s:Except Int (List Int)} (h:RS W g s) (hb:Below W.heap.size W W'):RS W' g s:=h.chg (S:=fun _=>False) (fun _ h=>h.elim) (Chg.of_below hb)
theorem RS.lt {W:World} {g:Nat} {s:Except Int (List Int)} (h:RS W g s):g<W.heap.size:=by
 cases s with
 | error e=>exact h.2.lt
 | ok x=>obtain ⟨N,m,h⟩:=h;exact h.lt
def BoxOf (W:World) (g:Nat) (A:Option Addr) (n c:Nat) (e:Int):Except Int (List Int)→Prop
 | .ok xs=>e=0∧Bs W g A n c xs
 | .error k=>e=k∧k≠0
theorem RS.box {W:World} {g:Nat} {s:Except Int (List Int)} (h:RS W g s):∃ A n c N m e,W.heap[g]?=some (rdB A n c N m e)∧BoxOf W g A n c e s:=by
 cases s with
 | error e=>obtain ⟨h0,A,n,c,N,m,hb⟩:=h;exact ⟨A,n,c,N,m,e,hb,rfl,h0⟩
 | ok x=>obtain ⟨N,m,A,n,c,hb,hs⟩:=h;exact ⟨A,n,c,N,m,0,hb,rfl,hs⟩
theorem kind_any (g:Nat) (s:Except Int (List Int)) (most:Int) (w:World) (h:RS w g s) (h1:1≤most) (h2:most≤255) :
  Calls Try.prog 86 #[.pointer (some ⟨g,0,none⟩),.int .i64 most] w fun e w'=>∃ k,e=.returned (.int .i64 k)∧Chg (fun k=>k=g) w w'∧RS w' g (restR (nextR s (kindR most)))∧valIs k (nextR s (kindR most)):=by
 cases s with
 | error er =>
  refine (kind_bad g er most w h.2 h.1).mono ?_
  rintro e w' ⟨rfl,hw⟩
  subst hw
  exact ⟨0,rfl,Chg.refl _ _,h,trivial⟩
 | ok xs =>
  obtain ⟨N,m,h⟩:=h
  refine (kind_calls g xs N m most w h h1 h2).mono ?_
  rintro e w' ⟨hc,hm⟩
  show ∃ k,_∧_∧RS w' g (restR (kindR most xs))∧valIs k (kindR most xs)
  cases hK:kindR most xs with
  | error er=>rw [hK] at hm;exact ⟨0,hm.1,hc,⟨kind_err hK,hm.2⟩,trivial⟩
  | ok y=>rw [hK] at hm;exact ⟨y.1,hm.1,hc,⟨N,m,hm.2⟩,rfl⟩
theorem num_any (g:Nat) (s:Except Int (List Int)) (w:World) (h:RS w g s) :
  Calls Try.prog 88 #[.pointer (some ⟨g,0,none⟩)] w fun e w'=>∃ k,e=.returned (.int .i64 k)∧Chg (fun k=>k=g) w w'∧RS w' g (restR (nextR s numR))∧valIs k (nextR s numR):=by
 cases s with
 | error er =>
  refine (number_bad g er w h.2 h.1).mono ?_
  rintro e w' ⟨rfl,hw⟩
  subst hw
  exact ⟨0,rfl,Chg.refl _ _,h,trivial⟩
 | ok xs =>
  obtain ⟨N,m,h⟩:=h
  refine (number_calls g xs N m w h).mono ?_
  rintro e w' ⟨hc,hm⟩
  show ∃ k,_∧_∧RS w' g (restR (numR xs))∧valIs k (numR xs)
  cases hK:numR xs with
  | error er=>rw [hK] at hm;exact ⟨0,hm.1,hc,⟨num_err hK,hm.2⟩,trivial⟩
  | ok y=>rw [hK] at hm;exact ⟨y.1,hm.1,hc,⟨N,m,hm.2⟩,rfl⟩
theorem name_any (g:Nat) (s:Except Int (List Int)) (w:World) (h:RS w g s) :
  Calls Try.prog 87 #[.pointer (some ⟨g,0,none⟩)] w fun e w'=>∃ k,e=.returned (.string k)∧k.size≤140737488355328∧Chg (fun k=>k=g) w w'∧RS w' g (restR (nextR s nameR))∧valIs k (nextR s nameR):=by
 cases s with
 | error er =>
  refine (name_bad g er w h.2 h.1).mono ?_
  rintro e w' ⟨rfl,hw⟩
  subst hw
  exact ⟨_,rfl,by decide,Chg.refl _ _,h,trivial⟩
 | ok xs =>
  obtain ⟨N,m,h⟩:=h
  refine (rname_calls g xs N m w h).mono ?_
  rintro e w' ⟨k,he,hsz,hc,hm⟩
  show ∃ k,_∧_∧_∧RS w' g (restR (nameR xs))∧valIs k (nameR xs)
  cases hK:nameR xs with
  | error er=>rw [hK] at hm;exact ⟨k,he,hsz,hc,⟨name_err hK,hm⟩,trivial⟩
  | ok y=>rw [hK] at hm;exact ⟨k,he,hsz,hc,⟨N,m,hm.2⟩,hm.1⟩
def AnyTm (w:World) (g:Nat) (R:Except Int (Tm × List Int)) (e:Ending) (w':World):Prop:=
 ∃ p t,e=.returned (tmV p t)∧TmS w' (fun b=>w.heap.size≤b) p t∧Chg (fun k=>k=g) w w'∧RS w' g (restR R)∧valIs t R
theorem tmRd_any {w:World} {g:Nat} {R:Except Int (Tm × List Int × Int)} {R2:Except Int (Tm × List Int)} (h1:∀ k,R=.error k→R2=.error k∧k≠0) (h2:∀ t r m,R=.ok (t,r,m)→R2=.ok (t,r)) {e:Ending} {w':World} (h:TmRd w g R e w'):AnyTm w g R2 e w':=by
 obtain ⟨p,t,he,ht,hc,hs⟩:=h
 refine ⟨p,t,he,ht,hc,?_⟩
 cases R with
 | error k=>rw [(h1 k rfl).1];exact ⟨⟨(h1 k rfl).2,hs⟩,trivial⟩
 | ok y=>obtain ⟨m,hm⟩:=hs.2;rw [h2 y.1 y.2.1 y.2.2 rfl];exact ⟨⟨_,m,hm⟩,hs.1⟩
def RSn (W:World) (g:Nat):Except Int (List Int)→Prop
 | .ok xs=>∃ m,RdOk W g xs 0 m
 | .error e=>e≠0∧RdBad W g e
theorem RS.setn {W:World} {g:Nat} {s:Except Int (List Int)} (h:RS W g s):RSn (W.setCell ⟨g,1,none⟩ (.int .i64 0)) g s:=by
 cases s with
 | error e=>exact ⟨h.1,h.2.setn 0⟩
 | ok xs=>obtain ⟨N,m,h⟩:=h;exact ⟨m,h.setn 0⟩
theorem term_any (g:Nat) (s:Except Int (List Int)) (w:World) (h:RSn w g s) :
  Calls Try.prog 107 #[.pointer (some ⟨g,0,none⟩),.int .i64 1] w (AnyTm w g (nextR s wholeR)):=by
 cases s with
 | error er =>
  refine (term_bad g 1 er w (fun W hc=>(kind_bad g er 7 W (h.2.below hc) h.1).mono ?_) h.2.lt h.1).mono fun e w' hp=>tmRd_any (R2:=.error er) (fun k hk=>by cases hk;exact ⟨rfl,h.1⟩) (fun t r m hk=>by cases hk) hp
  rintro e w' ⟨rfl,hw⟩
  subst hw
  exact ⟨rfl,Chg.refl _ _,h.2.below hc⟩
 | ok xs =>
  obtain ⟨m,h⟩:=h
  refine (term_calls 64 g xs 0 m 1 w (by decide) (by decide) (by decide) (by decide) h).mono fun e w' hp=>tmRd_any (R2:=wholeR xs) (fun k hk=>?_) (fun t r m hk=>?_) hp
  ·unfold wholeR;rw [hk];exact ⟨rfl,tm_err 64 hk⟩
  ·unfold wholeR;rw [hk]
theorem anyTm_out {w W0 w5:World} {g:Nat} {R:Except Int (Tm × List Int)} {p:Pl} {t:Tm} (hg:g<w.heap.size) (hz:W0.heap.size=w.heap.size+1) (h0:Chg (fun k=>k=g) w W0) (h1:TmS w5 (fun b=>W0.heap.size≤b) p t) (h2:Chg (fun k=>k=g) W0 w5)
  (h3:RS w5 g (restR R)) (h4:valIs t R) (W':World) (hch:Chg (fun k=>k=w.heap.size) w5 W'):AnyTm w g R (.returned (tmV p t)) W':=by
 have h02:=chg_trans h0 h2
 have hs:=h2.size
 refine ⟨p,t,rfl,(h1.same fun k hk _=>hch.block k (by omega) (by omega)).mono fun k hk _=>by omega,⟨hch.os.trans h02.os,hch.tape.trans h02.tape,hch.output.trans h02.output,Nat.le_trans h02.size hch.size,fun i hi hs=>?_⟩,?_,h4⟩
 ·rw [hch.block i (Nat.lt_of_lt_of_le hi h02.size) (by omega),h02.block i hi hs]
 ·exact h3.chg (S:=fun k=>k=w.heap.size) (fun k e=>by omega) hch
set_option maxHeartbeats 4000000 in
theorem whole_any (g:Nat) (s:Except Int (List Int)) (w:World) (h:RS w g s) :
  Calls Try.prog 89 #[.pointer (some ⟨g,0,none⟩)] w (AnyTm w g (nextR s wholeR)):=by
 have HGL:=Ak h.lt
 have HR0:=Ak (h.below (below_alloc (Below.refl _ _) (tzO 0)))
 have HX0:=Ak (blk_new w (tzO 0))
 have HB0:=Ak (below_alloc (Below.refl w.heap.size w) (tzO 0))
 have HZ0:=Ak (show (w.alloc (tzO 0)).heap.size=w.heap.size+1 by simp)
 clear h
 go_enter Try.func89,Try.ntmps89
 go_upto_region 1 with (fail)
 obtain ⟨W0,hW0⟩:∃ W0,W0=w.alloc (tzO 0):=⟨_,rfl⟩
 rw [← hW0] at HR0 HX0 HB0 HZ0 ⊢
 clear hW0
 obtain ⟨A,n,c,N,m,er,hg,hsem⟩:=HR0.out.box
 obtain ⟨c0,c1,c2,c3,z0,z1,z2,z3⟩:=row4 hg
 clear hg hsem
 go_upto_region 2 with (fail)
 have HR1:=Ak HR0.out.setn
 have HX1:=Ak (((chg_set W0 g 1 (.int .i64 0)).block _ (blk_lt HX0.out) (by have:=HGL.out;omega)).trans HX0.out)
 have HC1:=Ak (show Chg (fun k=>k=g) w (W0.setCell ⟨g,1,none⟩ (.int .i64 0)) from chg_trans (Chg.of_below HB0.out) (chg_set _ _ _ _))
 have HZ1:=Ak (show (W0.setCell ⟨g,1,none⟩ (.int .i64 0)).heap.size=w.heap.size+1 by rw [World.size_setCell];exact HZ0.out)
 obtain ⟨W1,hW1⟩:∃ W1,W1=W0.setCell ⟨g,1,none⟩ (.int .i64 0):=⟨_,rfl⟩
 rw [← hW1] at HR1 HX1 HC1 HZ1 ⊢
 clear hW1 c0 c1 c2 c3 z0 z1 z2 z3 HR0 HX0 HB0 HZ0
 go_wp2_with (go_at_call 107;go_must (refine (term_any g s _ HR1.out).mono ?_;rintro e w5 ⟨p5,t5,rfl,hl5,hc5,hm5,hv5⟩;have HX5:=Ak ((hc5.block _ (blk_lt HX1.out) (by have:=HGL.out;omega)).trans HX1.out);have HL5:=Ak hl5;have HC5:=Ak hc5;have HM5:=Ak hm5;have HV5:=Ak hv5;clear hl5 hc5 hm5 hv5;obtain ⟨⟨e0,e1,e2,e3,e4,e5,e6,e7⟩,x0,x1,x2,x3,x4,x5,x6,x7⟩:=row8t HX5.out;simp only [tmV]))
 refine bodyPost_ret (results_c rfl _ _ w.heap.size 27 #[.int .i64 t5.kind,.int .i64 t5.num,.string t5.name,.int .i64 t5.lv.kind,.int .i64 t5.lv.num,.slice p5.A t5.lv.kids.length p5.c,.slice p5.B t5.ls.length p5.d,.slice p5.K t5.kids.length p5.e] (0,0) _ rfl (set8 HX5.out) Try.underlying27 rfl (by kernel_rfl)) rfl ?_
 exact anyTm_out HGL.out HZ1.out HC1.out HL5.out HC5.out HM5.out HV5.out _ (chg_set8 _ _ _ _ _ _ _ _ _ _)
end Go.Proofs.Ytcgkeolgflphiaa

namespace Go.Proofs.Ytcgkeolgflphiaa
open Go.RowKit Go.Proofs.YtcgkeolgflphiaaW.PrintWords Go.RegionInvYtcgkeolgflphiaa

theorem set9 {w:World} {g:Nat} {x0 x1 x2 x3 x4 x5 x6 x7 x8 a0 a1 a2 a3 a4 a5 a6 a7 a8:Value} {t:TypeId} (h:w.heap[g]?=some (.cells #[x0,x1,x2,x3,x4,x5,x6,x7,x8] t (0,0))) :
  (((((((((w.setCell ⟨g,0,none⟩ a0).setCell ⟨g,1,none⟩ a1).setCell ⟨g,2,none⟩ a2).setCell ⟨g,3,none⟩ a3).setCell ⟨g,4,none⟩ a4).setCell ⟨g,5,none⟩ a5).setCell ⟨g,6,none⟩ a6).setCell ⟨g,7,none⟩ a7).setCell ⟨g,8,none⟩ a8).heap[g]?=some (.cells #[a0,a1,a2,a3,a4,a5,a6,a7,a8] t (0,0)):=by
 have h0:(w.setCell ⟨g,0,none⟩ a0).heap[g]?=some (.cells #[a0,x1,x2,x3,x4,x5,x6,x7,x8] t (0,0)):=blk_put h 0 a0 rfl
 have h1:((w.setCell ⟨g,0,none⟩ a0).setCell ⟨g,1,none⟩ a1).heap[g]?=some (.cells #[a0,a1,x2,x3,x4,x5,x6,x7,x8] t (0,0)):=blk_put h0 1 a1 rfl
 have h2:(((w.setCell ⟨g,0,none⟩ a0).setCell ⟨g,1,none⟩ a1).setCell ⟨g,2,none⟩ a2).heap[g]?=some (.cells #[a0,a1,a2,x3,x4,x5,x6,x7,x8] t (0,0)):=blk_put h1 2 a2 rfl
 have h3:((((w.setCell ⟨g,0,none⟩ a0).setCell ⟨g,1,none⟩ a1).setCell ⟨g,2,none⟩ a2).setCell ⟨g,3,none⟩ a3).heap[g]?=some (.cells #[a0,a1,a2,a3,x4,x5,x6,x7,x8] t (0,0)):=blk_put h2 3 a3 rfl
 have h4:(((((w.setCell ⟨g,0,none⟩ a0).setCell ⟨g,1,none⟩ a1).setCell ⟨g,2,none⟩ a2).setCell ⟨g,3,none⟩ a3).setCell ⟨g,4,none⟩ a4).heap[g]?=some (.cells #[a0,a1,a2,a3,a4,x5,x6,x7,x8] t (0,0)):=blk_put h3 4 a4 rfl
 have h5:((((((w.setCell ⟨g,0,none⟩ a0).setCell ⟨g,1,none⟩ a1).setCell ⟨g,2,none⟩ a2).setCell ⟨g,3,none⟩ a3).setCell ⟨g,4,none⟩ a4).setCell ⟨g,5,none⟩ a5).heap[g]?=some (.cells #[a0,a1,a2,a3,a4,a5,x6,x7,x8] t (0,0)):=blk_put h4 5 a5 rfl
 have h6:(((((((w.setCell ⟨g,0,none⟩ a0).setCell ⟨g,1,none⟩ a1).setCell ⟨g,2,none⟩ a2).setCell ⟨g,3,none⟩ a3).setCell ⟨g,4,none⟩ a4).setCell ⟨g,5,none⟩ a5).setCell ⟨g,6,none⟩ a6).heap[g]?=some (.cells #[a0,a1,a2,a3,a4,a5,a6,x7,x8] t (0,0)):=blk_put h5 6 a6 rfl
 have h7:((((((((w.setCell ⟨g,0,none⟩ a0).setCell ⟨g,1,none⟩ a1).setCell ⟨g,2,none⟩ a2).setCell ⟨g,3,none⟩ a3).setCell ⟨g,4,none⟩ a4).setCell ⟨g,5,none⟩ a5).setCell ⟨g,6,none⟩ a6).setCell ⟨g,7,none⟩ a7).heap[g]?=some (.cells #[a0,a1,a2,a3,a4,a5,a6,a7,x8] t (0,0)):=blk_put h6 7 a7 rfl
 have h8:(((((((((w.setCell ⟨g,0,none⟩ a0).setCell ⟨g,1,none⟩ a1).setCell ⟨g,2,none⟩ a2).setCell ⟨g,3,none⟩ a3).setCell ⟨g,4,none⟩ a4).setCell ⟨g,5,none⟩ a5).setCell ⟨g,6,none⟩ a6).setCell ⟨g,7,none⟩ a7).setCell ⟨g,8,none⟩ a8).heap[g]?=some (.cells #[a0,a1,a2,a3,a4,a5,a6,a7,a8] t (0,0)):=blk_put h7 8 a8 rfl
 exact h8
theorem chg_set9 (w:World) (g:Nat) (a0 a1 a2 a3 a4 a5 a6 a7 a8:Value):Chg (fun k=>k=g) w (((((((((w.setCell ⟨g,0,none⟩ a0).setCell ⟨g,1,none⟩ a1).setCell ⟨g,2,none⟩ a2).setCell ⟨g,3,none⟩ a3).setCell ⟨g,4,none⟩ a4).setCell ⟨g,5,none⟩ a5).setCell ⟨g,6,none⟩ a6).setCell ⟨g,7,none⟩ a7).setCell ⟨g,8,none⟩ a8):=(chg_trans (chg_trans (chg_trans (chg_trans (chg_trans (chg_trans (chg_trans (chg_trans (chg_set _ _ _ _) (chg_set _ _ _ _)) (chg_set _ _ _ _)) (chg_set _ _ _ _)) (chg_set _ _ _ _)) (chg_set _ _ _ _)) (chg_set _ _ _ _)) (chg_set _ _ _ _)) (chg_set _ _ _ _))
theorem row9t {w:World} {g:Nat} {v0 v1 v2 v3 v4 v5 v6 v7 v8:Value} {t:TypeId} (h:w.heap[g]?=some (.cells #[v0,v1,v2,v3,v4,v5,v6,v7,v8] t (0,0))) :
  (w.cell? ⟨g,0,none⟩=some v0∧w.cell? ⟨g,1,none⟩=some v1∧w.cell? ⟨g,2,none⟩=some v2∧w.cell? ⟨g,3,none⟩=some v3∧w.cell? ⟨g,4,none⟩=some v4∧w.cell? ⟨g,5,none⟩=some v5∧w.cell? ⟨g,6,none⟩=some v6∧w.cell? ⟨g,7,none⟩=some v7∧w.cell? ⟨g,8,none⟩=some v8) ∧
  (w.frozen? ⟨g,0,none⟩=false∧w.frozen? ⟨g,1,none⟩=false∧w.frozen? ⟨g,2,none⟩=false∧w.frozen? ⟨g,3,none⟩=false∧w.frozen? ⟨g,4,none⟩=false∧w.frozen? ⟨g,5,none⟩=false∧w.frozen? ⟨g,6,none⟩=false∧w.frozen? ⟨g,7,none⟩=false∧w.frozen? ⟨g,8,none⟩=false):=by
 refine ⟨⟨?_,?_,?_,?_,?_,?_,?_,?_,?_⟩,blk_frozen h 0,blk_frozen h 1,blk_frozen h 2,blk_frozen h 3,blk_frozen h 4,blk_frozen h 5,blk_frozen h 6,blk_frozen h 7,blk_frozen h 8⟩ <;> (rw [cell_of_row _ _ _ _ _ _ h];rfl)
abbrev czO:Obj:=.cells #[.string ⟨#[]⟩,.int .i64 0,.int .i64 0,.string ⟨#[]⟩,.int .i64 0,.int .i64 0,.slice none 0 0,.slice none 0 0,.slice none 0 0] 63 (0,0)
def AnyCt (w:World) (g:Nat) (R:Except Int (Ct × List Int)) (e:Ending) (w':World):Prop:=
 ∃ p c,e=.returned (ctV p c)∧(TmS w' (fun b=>w.heap.size≤b) p c.ty∧c.nm.size≤140737488355328)∧Chg (fun k=>k=g) w w'∧RS w' g (restR R)∧valIs c R
theorem ctR_chain (s:Except Int (List Int)):restR (nextR s ctR)=restR (nextR (restR (nextR s nameR)) wholeR)∧∀ k t,valIs k (nextR s nameR)→valIs t (nextR (restR (nextR s nameR)) wholeR)→valIs (⟨k,t⟩:Ct) (nextR s ctR):=by
 cases s with
 | error e=>exact ⟨rfl,fun _ _ _ _=>trivial⟩
 | ok xs =>
  simp only [nextR]
  unfold ctR
  cases nameR xs with
  | error e=>exact ⟨rfl,fun _ _ _ _=>trivial⟩
  | ok y =>
   simp only [restR]
   cases wholeR y.2 with
   | error e=>exact ⟨rfl,fun _ _ _ _=>trivial⟩
   | ok z=>exact ⟨rfl,fun k t h1 h2=>by show (⟨k,t⟩:Ct)=⟨y.1,z.1⟩;rw [show k=y.1 from h1,show t=z.1 from h2]⟩
set_option maxHeartbeats 4000000 in
theorem ctor_any (g:Nat) (s:Except Int (List Int)) (w:World) (h:RS w g s) :
  Calls Try.prog 91 #[.pointer (some ⟨g,0,none⟩)] w (AnyCt w g (nextR s ctR)):=by
 have HGL:=Ak h.lt
 have HR0:=Ak (h.below (below_alloc (Below.refl _ _) czO))
 have HX0:=Ak (blk_new w czO)
 have HB0:=Ak (below_alloc (Below.refl w.heap.size w) czO)
 have HZ0:=Ak (show (w.alloc czO).heap.size=w.heap.size+1 by simp)
 clear h
 go_enter Try.func91,Try.ntmps91
 go_upto_region 1 with (fail)
 obtain ⟨W0,hW0⟩:∃ W0,W0=w.alloc czO:=⟨_,rfl⟩
 rw [← hW0] at HR0 HX0 HB0 HZ0 ⊢
 clear hW0
 go_wp2_with (first
  | (go_at_call 87;go_must (refine (name_any g s _ HR0.out).mono ?_;rintro e w3 ⟨k3,rfl,hsz,hc3,hm3,hv3⟩;have HX3:=Ak ((hc3.block _ (blk_lt HX0.out) (by have:=HGL.out;omega)).trans HX0.out);have HC3:=Ak hc3;have HM3:=Ak hm3;have HV3:=Ak hv3;have HSZ:=Ak hsz;clear hc3 hm3 hv3 hsz))
  | (go_at_call 89;go_must (refine (whole_any g _ _ HM3.out).mono ?_;rintro e w5 ⟨p5,t5,rfl,hl5,hc5,hm5,hv5⟩;have HX5:=Ak ((hc5.block _ (blk_lt HX3.out) (by have:=HGL.out;omega)).trans HX3.out);have HL5:=Ak hl5;have HC5:=Ak hc5;have HM5:=Ak hm5;have HV5:=Ak hv5;clear hl5 hc5 hm5 hv5;obtain ⟨⟨e0,e1,e2,e3,e4,e5,e6,e7,e8⟩,x0,x1,x2,x3,x4,x5,x6,x7,x8⟩:=row9t HX5.out;simp only [tmV])))
 refine bodyPost_ret (results_c rfl _ _ w.heap.size 63 #[.string k3,.int .i64 t5.kind,.int .i64 t5.num,.string t5.name,.int .i64 t5.lv.kind,.int .i64 t5.lv.num,.slice p5.A t5.lv.kids.length p5.c,.slice p5.B t5.ls.length p5.d,.slice p5.K t5.kids.length p5.e] (0,0) _ rfl (set9 HX5.out) Try.underlying63 rfl (by kernel_rfl)) rfl ?_
 have hz3:=HC3.out.size
 have hz0:=HZ0.out
 have hgl:=HGL.out
 have hz5:=HC5.out.size
 have h05:=chg_trans (Chg.of_below HB0.out) (chg_trans HC3.out HC5.out)
 have hch:=chg_set9 w5 w.heap.size (.string k3) (.int .i64 t5.kind) (.int .i64 t5.num) (.string t5.name) (.int .i64 t5.lv.kind) (.int .i64 t5.lv.num) (.slice p5.A t5.lv.kids.length p5.c) (.slice p5.B t5.ls.length p5.d) (.slice p5.K t5.kids.length p5.e)
 refine ⟨p5,⟨k3,t5⟩,rfl,⟨(HL5.out.same fun k hk _=>hch.block k (by omega) (by omega)).mono fun k hk _=>by omega,HSZ.out⟩,⟨hch.os.trans h05.os,hch.tape.trans h05.tape,hch.output.trans h05.output,Nat.le_trans h05.size hch.size,fun i hi hs=>?_⟩,?_,(ctR_chain s).2 k3 t5 HV3.out HV5.out⟩
 ·rw [hch.block i (Nat.lt_of_lt_of_le hi h05.size) (by omega),h05.block i hi hs]
 ·rw [(ctR_chain s).1];exact HM5.out.chg (S:=fun k=>k=w.heap.size) (fun k e=>by omega) hch
end Go.Proofs.Ytcgkeolgflphiaa

namespace Go.Proofs.Ytcgkeolgflphiaa
open Go.RowKit Go.Proofs.YtcgkeolgflphiaaW.PrintWords Go.RegionInvYtcgkeolgflphiaa Go.RegionEYtcgkeolgflphiaa
set_option linter.unusedVariables false

theorem ct_one (p:Pl) (l:Ct):(#[.string l.nm,.int .i64 l.ty.kind,.int .i64 l.ty.num,.string l.ty.name,.int .i64 l.ty.lv.kind,.int .i64 l.ty.lv.num,.slice p.A l.ty.lv.kids.length p.c,.slice p.B l.ty.ls.length p.d,.slice p.K l.ty.kids.length p.e]:Array Value).all (·.oneCell')=true:=all_one (l:=[.string l.nm,.int .i64 l.ty.kind,.int .i64 l.ty.num,.string l.ty.name,.int .i64 l.ty.lv.kind,.int .i64 l.ty.lv.num,.slice p.A l.ty.lv.kids.length p.c,.slice p.B l.ty.ls.length p.d,.slice p.K l.ty.kids.length p.e]) rfl

def lc_ops:List Oper:=[
 { dst:=some 14,op:=Go.Op.load 63 (Go.Operand.tmp 7),type:=63,pos:= "decl.go:262",after:=#[],guard:=none },
 { dst:=some 15,op:=Go.Op.move (Go.Operand.tmp 0),type:=31,pos:= "decl.go:262",after:=#[],guard:=none },
 { dst:=some 16,op:=Go.Op.call { callee:=Go.Callee.builtin Go.Builtin.len,args:=#[Go.Operand.tmp 15],argTypes:=#[31] },type:=3,pos:= "decl.go:262",after:=#[{ on:=1,ground:=Go.Ground.data }],guard:=none },
 { dst:=some 17,op:=Go.Op.move (Go.Operand.tmp 6),type:=97,pos:= "decl.go:262",after:=#[],guard:=none },
 { dst:=some 18,op:=Go.Op.nilCheck (Go.Operand.tmp 17),type:=0,pos:= "decl.go:262",after:=#[{ on:=3,ground:=Go.Ground.data }],guard:=none },
 { dst:=some 19,op:=Go.Op.fieldAddr 99 (Go.Operand.tmp 18) 0,type:=0,pos:= "decl.go:262",after:=#[{ on:=4,ground:=Go.Ground.data }],guard:=none },
 { dst:=some 20,op:=Go.Op.load 31 (Go.Operand.tmp 19),type:=31,pos:= "decl.go:262",after:=#[{ on:=5,ground:=Go.Ground.data }],guard:=none },
 { dst:=some 21,op:=Go.Op.call { callee:=Go.Callee.builtin Go.Builtin.len,args:=#[Go.Operand.tmp 20],argTypes:=#[31] },type:=3,pos:= "decl.go:262",after:=#[{ on:=6,ground:=Go.Ground.data }],guard:=none },
 { dst:=some 22,op:=Go.Op.binOp Go.BinOp.sub 3 (Go.Operand.tmp 16) (Go.Operand.tmp 21) 3,type:=3,pos:= "decl.go:262",after:=#[{ on:=2,ground:=Go.Ground.data },{ on:=7,ground:=Go.Ground.data },{ on:=13,ground:=Go.Ground.gcOnly Go.Departure.lateStores }],guard:=none },
 { dst:=some 23,op:=Go.Op.move (Go.Operand.tmp 6),type:=97,pos:= "decl.go:262",after:=#[{ on:=14,ground:=Go.Ground.gcOnly Go.Departure.lateStores }],guard:=none },
 { dst:=some 24,op:=Go.Op.nilCheck (Go.Operand.tmp 23),type:=0,pos:= "decl.go:262",after:=#[{ on:=9,ground:=Go.Ground.data },{ on:=14,ground:=Go.Ground.gcOnly Go.Departure.lateStores }],guard:=none },
 { dst:=some 25,op:=Go.Op.fieldAddr 99 (Go.Operand.tmp 24) 3,type:=0,pos:= "decl.go:262",after:=#[{ on:=10,ground:=Go.Ground.data },{ on:=14,ground:=Go.Ground.gcOnly Go.Departure.lateStores }],guard:=none },
 { dst:=some 26,op:=Go.Op.load 32 (Go.Operand.tmp 25),type:=32,pos:= "decl.go:262",after:=#[{ on:=11,ground:=Go.Ground.data },{ on:=14,ground:=Go.Ground.gcOnly Go.Departure.lateStores }],guard:=none },
 { dst:=none,op:=Go.Op.store 63 (Go.Operand.tmp 3) (Go.Operand.tmp 14),type:=0,pos:= "decl.go:262",after:=#[{ on:=0,ground:=Go.Ground.data },{ on:=0,ground:=Go.Ground.phase },{ on:=1,ground:=Go.Ground.textOnly Go.Departure.lateStores },{ on:=2,ground:=Go.Ground.textOnly Go.Departure.lateStoresUnsure },{ on:=3,ground:=Go.Ground.textOnly Go.Departure.lateStores },{ on:=4,ground:=Go.Ground.textOnly Go.Departure.lateStores },{ on:=5,ground:=Go.Ground.textOnly Go.Departure.lateStores },{ on:=6,ground:=Go.Ground.textOnly Go.Departure.lateStores },{ on:=7,ground:=Go.Ground.textOnly Go.Departure.lateStoresUnsure },{ on:=8,ground:=Go.Ground.textOnly Go.Departure.lateStores },{ on:=9,ground:=Go.Ground.textOnly Go.Departure.lateStores },{ on:=10,ground:=Go.Ground.textOnly Go.Departure.lateStores },{ on:=11,ground:=Go.Ground.textOnly Go.Departure.lateStores },{ on:=12,ground:=Go.Ground.textOnly Go.Departure.lateStores }],guard:=none },
 { dst:=some 4,op:=Go.Op.assign (Go.Operand.tmp 22),type:=3,pos:= "decl.go:262",after:=#[{ on:=8,ground:=Go.Ground.data },{ on:=13,ground:=Go.Ground.chain },{ on:=0,ground:=Go.Ground.phase },{ on:=1,ground:=Go.Ground.phase },{ on:=2,ground:=Go.Ground.phase },{ on:=3,ground:=Go.Ground.phase },{ on:=4,ground:=Go.Ground.phase },{ on:=5,ground:=Go.Ground.phase },{ on:=6,ground:=Go.Ground.phase },{ on:=7,ground:=Go.Ground.phase },{ on:=8,ground:=Go.Ground.phase },{ on:=9,ground:=Go.Ground.textOnly Go.Departure.lateStores },{ on:=10,ground:=Go.Ground.textOnly Go.Departure.lateStores },{ on:=11,ground:=Go.Ground.textOnly Go.Departure.lateStores },{ on:=12,ground:=Go.Ground.textOnly Go.Departure.lateStores },{ on:=13,ground:=Go.Ground.phase }],guard:=none },
 { dst:=some 5,op:=Go.Op.assign (Go.Operand.tmp 26),type:=32,pos:= "decl.go:262",after:=#[{ on:=12,ground:=Go.Ground.data },{ on:=14,ground:=Go.Ground.chain },{ on:=0,ground:=Go.Ground.phase },{ on:=1,ground:=Go.Ground.phase },{ on:=2,ground:=Go.Ground.phase },{ on:=3,ground:=Go.Ground.phase },{ on:=4,ground:=Go.Ground.phase },{ on:=5,ground:=Go.Ground.phase },{ on:=6,ground:=Go.Ground.phase },{ on:=7,ground:=Go.Ground.phase },{ on:=8,ground:=Go.Ground.phase },{ on:=9,ground:=Go.Ground.phase },{ on:=10,ground:=Go.Ground.phase },{ on:=11,ground:=Go.Ground.phase },{ on:=12,ground:=Go.Ground.phase },{ on:=13,ground:=Go.Ground.phase },{ on:=14,ground:=Go.Ground.phase }],guard:=none }]
def lc_F (w0:World) (gR gx gi n n6 c c6:Nat) (A A6:Option Addr) (N6 m6 er:Int) (p:Pl) (l:Ct):Nat→(Nat→Value)→Value→World→(Nat→Prop)→Prop:=fun rix=>match rix with
 | 0=>fun _ v _ _=>v=ctV p l
 | 1=>fun _ v _ _=>v=.slice A n c
 | 2=>fun _ v _ _=>v=.int .i64 n
 | 3=>fun _ v _ _=>v=.pointer (some ⟨gi,0,none⟩)
 | 4=>fun _ v _ _=>v=.pointer (some ⟨gi,0,none⟩)
 | 5=>fun _ v _ _=>v=.pointer (some ⟨gi,0,none⟩)
 | 6=>fun _ v _ _=>v=.slice A6 n6 c6
 | 7=>fun _ v _ _=>v=.int .i64 n6
 | 8=>fun _ v _ _=>v=.int .i64 (IntKind.i64.wrap ((n:Int) - n6))
 | 9=>fun _ v _ _=>v=.pointer (some ⟨gi,0,none⟩)
 | 10=>fun _ v _ _=>v=.pointer (some ⟨gi,0,none⟩)
 | 11=>fun _ v _ _=>v=.pointer (some ⟨gi,3,none⟩)
 | 12=>fun _ v _ _=>v=.int .i64 er
 | 13=>fun τ v w O=>w.heap[gR]?=some (ctO p l)∧O gR
 | 14=>fun _ v _ _=>v=.int .i64 (IntKind.i64.wrap ((n:Int) - n6))
 | 15=>fun _ v _ _=>v=.int .i64 er
 | _=>fun _ _ _ _=>True
def lc_C:Nat→List Nat:=fun rix=>match rix with
 | _=>[]
theorem lc_nw0:nwB lc_ops.toArray 0=true:=by kernel_rfl
theorem lc_nw3:nwB lc_ops.toArray 3=true:=by kernel_rfl
theorem lc_nw6:nwB lc_ops.toArray 6=true:=by kernel_rfl
theorem lc_nw7:nwB lc_ops.toArray 7=true:=by kernel_rfl
set_option maxRecDepth 100000 in
set_option maxHeartbeats 8000000 in
theorem lc_obs (w0:World) (gR gx gi n n6 c c6:Nat) (A A6:Option Addr) (N6 m6 er:Int) (p:Pl) (l:Ct) (hR:w0.heap[gR]?=some czO) (hX:w0.heap[gx]?=some (ctO p l)) (hI:w0.heap[gi]?=some (rdB A6 n6 c6 N6 m6 er)) (hn1:gx≠gR) (hn2:gi≠gR) (Q:Exit→Act→World→Prop) (a0:Act) (hi0:a0.tmps.getD 0 undef=.slice A n c) (hi3:a0.tmps.getD 3 undef=.pointer (some ⟨gR,0,none⟩)) (hi4:a0.tmps.getD 4 undef=.int .i64 0) (hi5:a0.tmps.getD 5 undef=.int .i64 0) (hi6:a0.tmps.getD 6 undef=.pointer (some ⟨gi,0,none⟩)) (hi7:a0.tmps.getD 7 undef=.pointer (some ⟨gx,0,none⟩)) :
  ObsE Try.prog lc_ops.toArray Q (est2 13 0 (fun k=>k=gR) (fun _=>False)) lc_C (lc_F w0 gR gx gi n n6 c c6 A A6 N6 m6 er p l) a0 w0 lc_ops.toArray.toList 0:=by
 have nw0:=lc_nw0
 have nw3:=lc_nw3
 have nw6:=lc_nw6
 have nw7:=lc_nw7
 refine ⟨?_,?_,?_,?_,?_,?_,?_,?_,?_,?_,?_,?_,?_,?_,?_,?_,trivial⟩
 ·refine ⟨⟨fun τ=>stableE_det _,leans_not⟩,?_⟩
  intro a w O hk
  have e7:a.eval (.tmp 7)=.pointer (some ⟨gx,0,none⟩):=(hk.init 7 (initialB_of_nw nw7)).trans hi7
  have xX:=(hk.fix gx (est2_fix (blk_lt hX) (fun e=>hn1 e) (fun e=>e))).trans hX
  exact obE_loadRow rfl e7 xX Try.underlying63 rfl (by kernel_rfl) (wanted_none rfl) rfl
 ·refine ⟨⟨fun τ=>stableE_det _,leans_not⟩,?_⟩
  intro a w O hk
  have e0:a.eval (.tmp 0)=.slice A n c:=(hk.init 0 (initialB_of_nw nw0)).trans hi0
  exact toE (ob_move rfl e0 (wanted_none rfl) rfl)
 ·refine ⟨⟨fun τ=>stableE_det _,leans_not⟩,?_⟩
  intro a w O hk
  have e15:a.eval (.tmp 15)=.slice A n c:=hk.fact 1 _ 15 rfl rfl rfl rfl
  exact toE (ob_len rfl e15 Try.underlying31 (wanted_none rfl) rfl)
 ·refine ⟨⟨fun τ=>stableE_det _,leans_not⟩,?_⟩
  intro a w O hk
  have e6:a.eval (.tmp 6)=.pointer (some ⟨gi,0,none⟩):=(hk.init 6 (initialB_of_nw nw6)).trans hi6
  exact toE (ob_move rfl e6 (wanted_none rfl) rfl)
 ·refine ⟨⟨fun τ=>stableE_det _,leans_not⟩,?_⟩
  intro a w O hk
  have e17:a.eval (.tmp 17)=.pointer (some ⟨gi,0,none⟩):=hk.fact 3 _ 17 rfl rfl rfl rfl
  exact obE_run (wanted_none rfl) (by unfold execOp;simp only [];rw [e17];go_simp) rfl
 ·refine ⟨⟨fun τ=>stableE_det _,leans_not⟩,?_⟩
  intro a w O hk
  have e18:a.eval (.tmp 18)=.pointer (some ⟨gi,0,none⟩):=hk.fact 4 _ 18 rfl rfl rfl rfl
  exact obE_run (wanted_none rfl) (by unfold execOp;simp only [];rw [e18];go_simp) rfl
 ·refine ⟨⟨fun τ=>stableE_det _,leans_not⟩,?_⟩
  intro a w O hk
  have e19:a.eval (.tmp 19)=.pointer (some ⟨gi,0,none⟩):=hk.fact 5 _ 19 rfl rfl rfl rfl
  have xI:=(hk.fix gi (est2_fix (blk_lt hI) (fun e=>hn2 e) (fun e=>e))).trans hI
  have c0:=(row4 xI).1
  exact toE (ob_loadSlice rfl e19 Try.underlying31 c0 (wanted_none rfl) rfl)
 ·refine ⟨⟨fun τ=>stableE_det _,leans_not⟩,?_⟩
  intro a w O hk
  have e20:a.eval (.tmp 20)=.slice A6 n6 c6:=hk.fact 6 _ 20 rfl rfl rfl rfl
  exact toE (ob_len rfl e20 Try.underlying31 (wanted_none rfl) rfl)
 ·refine ⟨⟨fun τ=>stableE_det _,leans_not⟩,?_⟩
  intro a w O hk
  have e16:a.eval (.tmp 16)=.int .i64 n:=hk.fact 2 _ 16 rfl rfl rfl rfl
  have e21:a.eval (.tmp 21)=.int .i64 n6:=hk.fact 7 _ 21 rfl rfl rfl rfl
  exact obE_run (wanted_none rfl) (by unfold execOp;simp only [];rw [e16,e21];go_simp) rfl
 ·refine ⟨⟨fun τ=>stableE_det _,leans_not⟩,?_⟩
  intro a w O hk
  have e6:a.eval (.tmp 6)=.pointer (some ⟨gi,0,none⟩):=(hk.init 6 (initialB_of_nw nw6)).trans hi6
  exact toE (ob_move rfl e6 (wanted_none rfl) rfl)
 ·refine ⟨⟨fun τ=>stableE_det _,leans_not⟩,?_⟩
  intro a w O hk
  have e23:a.eval (.tmp 23)=.pointer (some ⟨gi,0,none⟩):=hk.fact 9 _ 23 rfl rfl rfl rfl
  exact obE_run (wanted_none rfl) (by unfold execOp;simp only [];rw [e23];go_simp) rfl
 ·refine ⟨⟨fun τ=>stableE_det _,leans_not⟩,?_⟩
  intro a w O hk
  have e24:a.eval (.tmp 24)=.pointer (some ⟨gi,0,none⟩):=hk.fact 10 _ 24 rfl rfl rfl rfl
  exact obE_run (wanted_none rfl) (by unfold execOp;simp only [];rw [e24];go_simp) rfl
 ·refine ⟨⟨fun τ=>stableE_det _,leans_not⟩,?_⟩
  intro a w O hk
  have e25:a.eval (.tmp 25)=.pointer (some ⟨gi,3,none⟩):=hk.fact 11 _ 25 rfl rfl rfl rfl
  have xI:=(hk.fix gi (est2_fix (blk_lt hI) (fun e=>hn2 e) (fun e=>e))).trans hI
  have c3:=(row4 xI).2.2.2.1
  exact obE_run (wanted_none rfl) (by unfold execOp;simp only [];rw [e25];go_simp) rfl
 ·refine ⟨⟨fun τ=>(fun v w w' O h hz hk=>⟨(hk gR (blk_lt h.1) (.inr h.2)).trans h.1,h.2⟩),leans_not⟩,?_⟩
  intro a w O hk
  have e3:a.eval (.tmp 3)=.pointer (some ⟨gR,0,none⟩):=(hk.init 3 (initialB_of_nw nw3)).trans hi3
  have e14:a.eval (.tmp 14)=ctV p l:=hk.fact 0 _ 14 rfl rfl rfl rfl
  have xR:=(hk.est 13 _ rfl (.inl rfl) gR (.inl ⟨rfl,rfl⟩)).trans hR
  have hs:=run_storeVar_row (P:=Try.prog) w gR 63 63 _ #[.string l.nm,.int .i64 l.ty.kind,.int .i64 l.ty.num,.string l.ty.name,.int .i64 l.ty.lv.kind,.int .i64 l.ty.lv.num,.slice p.A l.ty.lv.kids.length p.c,.slice p.B l.ty.ls.length p.d,.slice p.K l.ty.kids.length p.e] xR (by kernel_rfl) rfl (ct_one p l)
  refine obE_store (w':=w.setRow gR #[.string l.nm,.int .i64 l.ty.kind,.int .i64 l.ty.num,.string l.ty.name,.int .i64 l.ty.lv.kind,.int .i64 l.ty.lv.num,.slice p.A l.ty.lv.kids.length p.c,.slice p.B l.ty.ls.length p.d,.slice p.K l.ty.kids.length p.e]) (fun k=>k=gR) (wanted_none rfl) (by unfold execOp;simp only [];rw [e3,e14];simp only [ctV,Instr.storeAt,Instr.sureAddr,Sem.run_bind,Sem.run_pure,Result.andThen_ok,hs]) ⟨rfl,rfl,rfl,Nat.le_of_eq (size_setRow _ _ _).symm,fun k _ hn=>setRow_other w gR k _ (fun e=>hn (.inr (.inl ⟨rfl,e⟩)))⟩ ⟨setRow_heap w gR _ _ _ _ xR,rfl⟩ (fun k h=>.inl (.inr (.inl ⟨rfl,h⟩)))
 ·refine ⟨⟨fun τ=>stableE_det _,leans_not⟩,?_⟩
  intro a w O hk
  have e22:a.eval (.tmp 22)=.int .i64 (IntKind.i64.wrap ((n:Int) - n6)):=hk.fact 8 _ 22 rfl rfl rfl rfl
  exact toE (ob_assign rfl e22 (wanted_none rfl) rfl)
 ·refine ⟨⟨fun τ=>stableE_det _,leans_not⟩,?_⟩
  intro a w O hk
  have e26:a.eval (.tmp 26)=.int .i64 er:=hk.fact 12 _ 26 rfl rfl rfl rfl
  exact toE (ob_assign rfl e26 (wanted_none rfl) rfl)
set_option maxRecDepth 100000 in
set_option maxHeartbeats 8000000 in
theorem lc_region {Q:Exit→Act→World→Prop} {id:Nat} (w0:World) (gR gx gi n n6 c c6:Nat) (A A6:Option Addr) (N6 m6 er:Int) (p:Pl) (l:Ct) {s1 s2 s8 s9 s10 s11 s12 s13 s14 s15 s16 s17 s18 s19 s20 s21 s22 s23 s24 s25 s26:Value} (hR:w0.heap[gR]?=some czO) (hX:w0.heap[gx]?=some (ctO p l)) (hI:w0.heap[gi]?=some (rdB A6 n6 c6 N6 m6 er)) (hn1:gx≠gR) (hn2:gi≠gR)
  (hend:∀ (w':World) (v13:Value) (O13:Nat→Prop),Chg (fun k=>(fun k=>k=gR) k∨(fun _=>False) k) w0 w'→(w'.heap[gR]?=some (ctO p l)∧O13 gR)→(∀ k,O13 k→k<w'.heap.size∧¬ Fix w0 (est2 13 0 (fun k=>k=gR) (fun _=>False)) k)→Q .normal { tmps:=((.slice A n c) :: s1 :: s2 :: (.pointer (some ⟨gR,0,none⟩)) :: (.int .i64 (IntKind.i64.wrap ((n:Int) - n6))) :: (.int .i64 er) :: (.pointer (some ⟨gi,0,none⟩)) :: (.pointer (some ⟨gx,0,none⟩)) :: s8 :: s9 :: s10 :: s11 :: s12 :: s13 :: (ctV p l) :: (.slice A n c) :: (.int .i64 n) :: (.pointer (some ⟨gi,0,none⟩)) :: (.pointer (some ⟨gi,0,none⟩)) :: (.pointer (some ⟨gi,0,none⟩)) :: (.slice A6 n6 c6) :: (.int .i64 n6) :: (.int .i64 (IntKind.i64.wrap ((n:Int) - n6))) :: (.pointer (some ⟨gi,0,none⟩)) :: (.pointer (some ⟨gi,0,none⟩)) :: (.pointer (some ⟨gi,3,none⟩)) :: (.int .i64 er) :: []:List Value).toArray,defers:=[] } w') :
  (Code.region id lc_ops.toArray true).wp Try.prog Q { tmps:=((.slice A n c) :: s1 :: s2 :: (.pointer (some ⟨gR,0,none⟩)) :: (.int .i64 0) :: (.int .i64 0) :: (.pointer (some ⟨gi,0,none⟩)) :: (.pointer (some ⟨gx,0,none⟩)) :: s8 :: s9 :: s10 :: s11 :: s12 :: s13 :: s14 :: s15 :: s16 :: s17 :: s18 :: s19 :: s20 :: s21 :: s22 :: s23 :: s24 :: s25 :: s26 :: []:List Value).toArray,defers:=[] } w0:=by
 refine wp_region_est (by kernel_rfl) (est2 13 0 (fun k=>k=gR) (fun _=>False)) lc_C (lc_F w0 gR gx gi n n6 c c6 A A6 N6 m6 er p l) (est2_dis (fun _ _ h=>h)) (est2_range (fun k hk=>hk ▸ blk_lt hR) (fun _ h=>h.elim)) (by rfl) (by kernel_rfl) (lc_obs w0.drew gR gx gi n n6 c c6 A A6 N6 m6 er p l hR hX hI hn1 hn2 _ _ rfl rfl rfl rfl rfl rfl) ?_
 intro a w' O hd hs hb hf hf2 ha hsame
 have hl:=slots_eq (ops:=lc_ops.toArray) [(4,.int .i64 (IntKind.i64.wrap ((n:Int) - n6))),(5,.int .i64 er),(14,ctV p l),(15,.slice A n c),(16,.int .i64 n),(17,.pointer (some ⟨gi,0,none⟩)),(18,.pointer (some ⟨gi,0,none⟩)),(19,.pointer (some ⟨gi,0,none⟩)),(20,.slice A6 n6 c6),(21,.int .i64 n6),(22,.int .i64 (IntKind.i64.wrap ((n:Int) - n6))),(23,.pointer (some ⟨gi,0,none⟩)),(24,.pointer (some ⟨gi,0,none⟩)),(25,.pointer (some ⟨gi,3,none⟩)),(26,.int .i64 er)] (show a.tmps.size=27 from hs) (fun i h=>hsame i h) ⟨(hf 14 _ 4 rfl rfl (by decide)).1,(hf 15 _ 5 rfl rfl (by decide)).1,(hf 0 _ 14 rfl rfl (by decide)).1,(hf 1 _ 15 rfl rfl (by decide)).1,(hf 2 _ 16 rfl rfl (by decide)).1,(hf 3 _ 17 rfl rfl (by decide)).1,(hf 4 _ 18 rfl rfl (by decide)).1,(hf 5 _ 19 rfl rfl (by decide)).1,(hf 6 _ 20 rfl rfl (by decide)).1,(hf 7 _ 21 rfl rfl (by decide)).1,(hf 8 _ 22 rfl rfl (by decide)).1,(hf 9 _ 23 rfl rfl (by decide)).1,(hf 10 _ 24 rfl rfl (by decide)).1,(hf 11 _ 25 rfl rfl (by decide)).1,(hf 12 _ 26 rfl rfl (by decide)).1,trivial⟩ (by kernel_rfl)
 obtain ⟨tmps,defers⟩:=a
 obtain rfl:defers=[]:=hd
 have hl':tmps=_:=hl
 rw [hl']
 obtain ⟨⟨v13,hv13⟩,ho13⟩:=hf2 13 _ rfl rfl (by decide)
 have hb':=est2_chg hb
 refine Eq.mp ?_ (hend w' v13 (O 13) ⟨hb'.os,hb'.tape,hb'.output,hb'.size,hb'.block⟩ hv13 ho13)
 kernel_rfl

end Go.Proofs.Ytcgkeolgflphiaa

namespace Go.Proofs.Ytcgkeolgflphiaa
open Go.RowKit Go.Proofs.YtcgkeolgflphiaaW.PrintWords Go.RegionInvYtcgkeolgflphiaa

theorem took_of2 {α:Type} {x:α} {b:α→List Int} {w5:World} {g n n6 c:Nat} {A:Option Addr} {er:Int} {xs:List Int} {R:Except Int (α × List Int)} (h2:∀ t r,R=.ok (t,r)→xs=b t ++ r) (hb:∀ t,1≤(b t).length) (hn:xs.length=n) (hl:n≤140737488355000) (h:BoxOf w5 g A n6 c er (restR R)) (hv:valIs x R):TookP x (IntKind.i64.wrap ((n:Int) - n6)) er xs R:=by
 cases R with
 | error k=>exact h
 | ok y =>
  obtain ⟨t,r⟩:=y
  have e2:=h2 t r rfl
  have e3:=hb t
  obtain ⟨he,hr⟩:=h
  have hr:=hr.reads.1
  have hlen:=congrArg List.length e2
  rw [List.length_append] at hlen
  refine ⟨hv,he,n - n6,?_,by omega,by omega,?_⟩
  ·rw [IntWalk.i64_in _ (by omega)];omega
  ·rw [← hr,← hn];exact suffix_drop e2
theorem ctB_pos1 (c:Ct):1≤(ctB c).length:=by
 unfold ctB
 have:∀ t,1≤(tmB t).length:=fun t=>by obtain ⟨k,n,nm,lv,ls,ks⟩:=t;rw [tmB];simp only [List.length_append,List.length_cons,List.length_nil];omega
 have:=this c.ty
 rw [List.length_append];omega
set_option maxHeartbeats 4000000 in
theorem listCt_calls (gf:Nat) (A:Option Addr) (n c:Nat) (xs:List Int) (w:World) (h:Bs w w.heap.size A n c xs) (hf:w.heap[gf]?=some (.cells #[.func (.func 91) #[] #[]] 114 (0,0))) :
  Calls Try.prog 109 #[.slice A n c,.pointer (some ⟨gf,0,none⟩)] w (TakeP eCt ctV (ctR xs) xs w):=by
 have HS:=Ak h
 have HR1:=Ak (bs_new (O1:=czO) (N:=0) (m:=0) h)
 have hb1:=below_alloc (below_alloc (Below.refl w.heap.size w) czO) (rdB A n c 0 0 0)
 have HF1:=Ak (blk_below hf hb1)
 have HX1:=Ak (blk_alloc (blk_new w czO) (rdB A n c 0 0 0))
 have HB1:=Ak hb1
 have HZ1:=Ak (show ((w.alloc czO).alloc (rdB A n c 0 0 0)).heap.size=w.heap.size+2 by simp)
 clear h hf hb1
 go_enter Try.func109,Try.ntmps109
 go_upto_region 2 with (fail)
 obtain ⟨W1,hW1⟩:∃ W1,W1=(w.alloc czO).alloc (rdB A n c 0 0 0):=⟨_,rfl⟩
 rw [← hW1] at HR1 HF1 HX1 HB1 HZ1 ⊢
 clear hW1
 have f0:W1.cell? ⟨gf,0,none⟩=some (.func (.func 91) #[] #[]):=by rw [cell_of_row _ _ _ _ _ _ HF1.out];rfl
 go_upto_region 3 with (go_at_call 91;go_must (refine (ctor_any (w.heap.size+1) (.ok xs) _ ⟨0,0,HR1.out⟩).mono ?_;rintro e w5 ⟨p5,l5,rfl,hl5,hc5,hm5,hv5⟩;have HV5:=Ak hv5;have HX5:=Ak ((hc5.block _ (blk_lt HX1.out) (by omega)).trans HX1.out);have HL5:=Ak hl5;have HC5:=Ak hc5;have HM5:=Ak (RS.box hm5);clear hl5 hc5 hm5 hv5;simp only [ctV]))
 obtain ⟨A6,n6,c6,N6,m6,er,hg6,hsem⟩:=HM5.out
 have HG6:=Ak (blk_alloc hg6 (ctO p5 l5))
 have HSEM:=Ak hsem
 have HX6:=Ak (blk_alloc HX5.out (ctO p5 l5))
 have HY6:=Ak (blk_new w5 (ctO p5 l5))
 have HC6:=Ak (chg_trans HC5.out (Chg.of_below (below_alloc (Below.refl _ _) (ctO p5 l5))))
 have HL6:=Ak (eCt.same (w':=w5.alloc (ctO p5 l5)) (p:=p5) HL5.out fun k _ hk=>(below_alloc (Below.refl _ _) (ctO p5 l5)).block k hk)
 obtain ⟨gx,hgx⟩:∃ gx,gx=w5.heap.size:=⟨_,rfl⟩
 obtain ⟨W6,hW6⟩:∃ W6,W6=w5.alloc (ctO p5 l5):=⟨_,rfl⟩
 have HGX:=Ak (show gx≠w.heap.size by have:=blk_lt HX5.out;omega)
 rw [← hgx] at HY6 ⊢
 rw [← hW6] at HG6 HX6 HY6 HC6 HL6 ⊢
 clear hg6 hsem f0 hgx hW6 HX5 HL5 HC5 HM5
 refine lc_region W6 w.heap.size gx (w.heap.size+1) n n6 c c6 A A6 N6 m6 er p5 l5 HX6.out HY6.out HG6.out (HGX.out) (by omega) ?_
 intro w7 v13 O13 hch hx7 hO
 have HX7:=Ak hx7.1
 have HC7:=Ak (hch.mono (S':=fun k=>k=w.heap.size) fun k h=>h.elim id False.elim)
 clear hch hx7 hO
 go_wp2
 refine bodyPost_ret (results_ctt rfl _ _ w.heap.size 63 #[.string l5.nm,.int .i64 l5.ty.kind,.int .i64 l5.ty.num,.string l5.ty.name,.int .i64 l5.ty.lv.kind,.int .i64 l5.ty.lv.num,.slice p5.A l5.ty.lv.kids.length p5.c,.slice p5.B l5.ty.ls.length p5.d,.slice p5.K l5.ty.kids.length p5.e] (0,0) _ rfl HX7.out Try.underlying63 rfl (by kernel_rfl)) rfl ?_
 exact ⟨p5,l5,_,_,rfl,close_mem eCt (p:=p5) HL6.out HZ1.out HC7.out,close_below HB1.out HZ1.out HC6.out HC7.out,took_of2 (b:=ctB) (fun t r hk=>ct_put HS.out.bytes hk) ctB_pos1 HS.out.reads.1 HS.out.len HSEM.out HV5.out⟩
end Go.Proofs.Ytcgkeolgflphiaa

namespace Go.Proofs.Ytcgkeolgflphiaa
open Go.RowKit Go.Proofs.YtcgkeolgflphiaaW.PrintWords Go.RegionInvYtcgkeolgflphiaa

theorem infoCtD:(Try.prog.info? 63).map (fun i=>(i.zero,i.size,i.bytes))=some (some (.agg #[.string ⟨#[]⟩,.int .i64 0,.int .i64 0,.string ⟨#[]⟩,.int .i64 0,.int .i64 0,.slice none 0 0,.slice none 0 0,.slice none 0 0]),9,136):=by kernel_rfl
theorem notNil_takeCt (gf:Nat) (W:World):(binOp .eql 133 (.func (.func 109) #[] #[.pointer (some ⟨gf,0,none⟩)]) .nilFunc).run Try.prog W=.ok (.bool false) W:=by kernel_rfl
set_option maxRecDepth 100000 in
set_option maxHeartbeats 8000000 in
theorem takeCt_calls (gf:Nat) (A:Option Addr) (n c:Nat) (xs:List Int) (most:Int) (w:World) (h:Bs w w.heap.size A n c xs) (hm0:0≤most) (hm1:most≤16) (hf:w.heap[gf]?=some (.cells #[.func (.func 91) #[] #[]] 114 (0,0))) :
  Calls Try.prog 108 #[.slice A n c,.int .i64 most,.func (.func 109) #[] #[.pointer (some ⟨gf,0,none⟩)]] w (TakeLP eCt (listR most ctR xs) xs w):=by
 have HS:=Ak h
 have hnil:=notNil_takeCt gf
 have hlen:=h.len
 have hxn:=h.reads.1
 have HF:=Ak hf
 clear hf
 go_enter Try.func108,Try.ntmps108
 rcases takeN_cases h.bytes with hT | hT | ⟨m,k,hT,hm,hk1,hk2⟩
 ·have HE:=Ak (listR_short (most:=most) (f:=ctR) hT (by decide))
  have HT:=Ak hT
  clear hT h hxn
  go_wp2_with (go_at_call 75;go_must (refine (take_calls _ _ _ xs _ HS.out.reads HS.out.bytes hlen).mono ?_;rintro e w' ⟨rfl,hw⟩;obtain rfl:w=w':=hw.symm;rw [HT.out]))
  go_ret3
  exact takeLP_err HE.out (by decide) (Below.refl _ _)
 ·have HE:=Ak (listR_short (most:=most) (f:=ctR) hT (by decide))
  have HT:=Ak hT
  clear hT h hxn
  go_wp2_with (go_at_call 75;go_must (refine (take_calls _ _ _ xs _ HS.out.reads HS.out.bytes hlen).mono ?_;rintro e w' ⟨rfl,hw⟩;obtain rfl:w=w':=hw.symm;rw [HT.out]))
  go_ret3
  exact takeLP_err HE.out (by decide) (Below.refl _ _)
 ·have HT:=Ak hT
  by_cases hlong:most<m
  ·have HE:=Ak (listR_many (f:=ctR) hT hlong)
   clear hT h hxn
   go_wp2_with (go_at_call 75;go_must (refine (take_calls _ _ _ xs _ HS.out.reads HS.out.bytes hlen).mono ?_;rintro e w' ⟨rfl,hw⟩;obtain rfl:w=w':=hw.symm;rw [HT.out]))
   go_ret3
   exact takeLP_err HE.out (by decide) (Below.refl _ _)
  ·have h1:(m:Int)≤most:=by omega
   have HE:=Ak (listR_ok (f:=ctR) hT hlong)
   have hk3:k≤n:=by omega
   have HXN:=Ak hxn
   clear hT h hlong hxn
   go_wp2_with (go_at_call 75;go_must (refine (take_calls _ _ _ xs _ HS.out.reads HS.out.bytes hlen).mono ?_;rintro e w' ⟨rfl,hw⟩;obtain rfl:w=w':=hw.symm;rw [HT.out]))
   go_loopw [9,10,12] (fun u p v wr=>∃ (r at_:Nat) (acc:List Ct),u=.int .u64 r∧p=.int .i64 at_∧r+acc.length≤16∧1≤at_∧at_≤n∧Aside0 (listR most ctR xs=moreR acc (manyR ctR r (xs.drop at_)))∧Aside0 (RowG eCt wr w.heap.size v acc)∧Aside0 (Below w.heap.size w wr)) (fun u _ _ _=>(intOf u).toNat)
   case atStart=>exact ⟨m,k,[],rfl,rfl,by simp;omega,hk1,hk3,HE,⟨RowG.nil _ _ _⟩,⟨Below.refl _ _⟩⟩
   case round =>
    clear HE HT
    obtain ⟨r,at_,acc,rfl,rfl,hr16,hat1,hat,HE,HO,HB⟩:=hrel
    rcases r with _ | r
    ·have HE2:=Ak (show listR most ctR xs=.ok (acc,xs.drop at_) from HE.out.trans moreR_end)
     go_wp2
     go_ret3
     exact ⟨u12,acc,at_,0,rfl,HO.out,HB.out,by rw [HE2.out];exact ⟨rfl,rfl,at_,rfl,hat1,by have:=HXN.out;omega,rfl⟩⟩
    ·obtain ⟨A',hcut,hrd⟩:=cut_old (A:=A) (n:=n) (c:=c) at_ hat
     have HRD:=Ak (hrd wr wr.heap.size xs ((HS.out.chg (S:=fun k=>w.heap.size≤k) (Nat.le_refl _) (fun _ h=>h) (chg_of_base HB.out)).mono HB.out.size))
     have hr1:(((r+1:Nat):Int) == 0)=false:=by simp;omega
     clear hrd
     go_upto_region 12 with (first
      | (go_at_call 109;go_must (refine (listCt_calls gf A' (n - at_) (c - at_) (xs.drop at_) _ HRD.out ((HB.out.block _ (blk_lt HF.out)).trans HF.out)).mono ?_;rintro e w2 ⟨p,l5,cnt,er,rfl,hmem,hb,htk⟩;obtain ⟨p1,hp1⟩:∃ p1,p1=p:=⟨_,rfl⟩;subst hp1;have HMEM:=Ak hmem;have HB2:=Ak hb;have HTK:=Ak htk;clear hmem hb htk;simp only [ctV])))
     have hbx:(w2.alloc (.cells #[.string l5.nm,.int .i64 l5.ty.kind,.int .i64 l5.ty.num,.string l5.ty.name,.int .i64 l5.ty.lv.kind,.int .i64 l5.ty.lv.num,.slice p1.A l5.ty.lv.kids.length p1.c,.slice p1.B l5.ty.ls.length p1.d,.slice p1.K l5.ty.kids.length p1.e] 63 (0,0))).heap[w2.heap.size]?=some (.cells #[.string l5.nm,.int .i64 l5.ty.kind,.int .i64 l5.ty.num,.string l5.ty.name,.int .i64 l5.ty.lv.kind,.int .i64 l5.ty.lv.num,.slice p1.A l5.ty.lv.kids.length p1.c,.slice p1.B l5.ty.ls.length p1.d,.slice p1.K l5.ty.kids.length p1.e] 63 (0,0))∧Below w2.heap.size w2 (w2.alloc (.cells #[.string l5.nm,.int .i64 l5.ty.kind,.int .i64 l5.ty.num,.string l5.ty.name,.int .i64 l5.ty.lv.kind,.int .i64 l5.ty.lv.num,.slice p1.A l5.ty.lv.kids.length p1.c,.slice p1.B l5.ty.ls.length p1.d,.slice p1.K l5.ty.kids.length p1.e] 63 (0,0))):=⟨blk_new _ _,below_alloc (Below.refl _ _) _⟩
     have hb2:=below_then HB2.out HB2.out.size hbx.2
     have HY:=Ak hbx.1
     have HB3:=Ak (show Below w.heap.size w (w2.alloc (.cells #[.string l5.nm,.int .i64 l5.ty.kind,.int .i64 l5.ty.num,.string l5.ty.name,.int .i64 l5.ty.lv.kind,.int .i64 l5.ty.lv.num,.slice p1.A l5.ty.lv.kids.length p1.c,.slice p1.B l5.ty.ls.length p1.d,.slice p1.K l5.ty.kids.length p1.e] 63 (0,0))) from below_then HB.out HB.out.size hb2)
     have HO3:=Ak (RowG.later HO.out hb2)
     have HM3:=Ak (eCt.beside HO.out HB.out.size (eCt.same (w':=w2.alloc (.cells #[.string l5.nm,.int .i64 l5.ty.kind,.int .i64 l5.ty.num,.string l5.ty.name,.int .i64 l5.ty.lv.kind,.int .i64 l5.ty.lv.num,.slice p1.A l5.ty.lv.kids.length p1.c,.slice p1.B l5.ty.ls.length p1.d,.slice p1.K l5.ty.kids.length p1.e] 63 (0,0))) HMEM.out fun k hk hz=>hbx.2.block k hz))
     obtain ⟨gx,hgx⟩:∃ gx,gx=w2.heap.size:=⟨_,rfl⟩
     obtain ⟨W3,hW3⟩:∃ W3,W3=w2.alloc (.cells #[.string l5.nm,.int .i64 l5.ty.kind,.int .i64 l5.ty.num,.string l5.ty.name,.int .i64 l5.ty.lv.kind,.int .i64 l5.ty.lv.num,.slice p1.A l5.ty.lv.kids.length p1.c,.slice p1.B l5.ty.ls.length p1.d,.slice p1.K l5.ty.kids.length p1.e] 63 (0,0)):=⟨_,rfl⟩
     rw [← hW3] at HY HB3 HO3 HM3 ⊢
     rw [← hgx] at HY ⊢
     clear hbx hb2
     clear hgx hW3 HMEM HB2 HRD hcut
     obtain ⟨⟨d0,d1,d2,d3,d4,d5,d6,d7,d8⟩,-⟩:=row9t HY.out
     cases hf1:ctR (xs.drop at_) with
     | error ee =>
      have htk:=HTK.out
      rw [hf1] at htk
      obtain ⟨rfl,hne⟩:=htk
      have hne':(er != 0)=true:=by simp [hne]
      have HK:=Ak (HE.out.trans (moreR_bad hf1))
      have HNE:=Ak hne
      clear hf1 hne HTK
      go_wp2
      go_ret3
      exact takeLP_err HK.out HNE.out HB3.out
     | ok y =>
      obtain ⟨x',r'⟩:=y
      have htk:=HTK.out
      rw [hf1] at htk
      obtain ⟨hxx,rfl,u,rfl,hu1,hu2,hrr⟩:=htk
      subst hxx
      have HK:=Ak (HE.out.trans (moreR_next hf1))
      have hu3:at_+u≤n:=by have:=HXN.out;rw [List.length_drop] at hu2;omega
      have HRR:=Ak (show r'=xs.drop (at_+u) by rw [hrr,List.drop_drop])
      obtain ⟨cs,q,hown,hcs⟩:=HO3.out
      have HOWN:=Ak hown
      have HCS:=Ak hcs
      clear hf1 HTK hown hcs hrr hu2
      go_wp2_with (first | (at_builtin;go_must (refine print_append_cells (w0:=W3) w.heap.size rfl (.tmp 65) (.tmp 67) 28 63 _ 9 136 rfl Try.underlying28 infoCtD rfl (by decide) (by decide) u12 acc.length cs [.string l5.nm,.int .i64 l5.ty.kind,.int .i64 l5.ty.num,.string l5.ty.name,.int .i64 l5.ty.lv.kind,.int .i64 l5.ty.lv.num,.slice p1.A l5.ty.lv.kids.length p1.c,.slice p1.B l5.ty.ls.length p1.d,.slice p1.K l5.ty.kids.length p1.e] rfl rfl rfl (List.all_eq_true.1 rfl) HOWN.out (Below.refl _ _) HB3.out.size (by omega) ?_;intro v3 w3 ho hb hg hat;have HO4:=Ak (RowG.push (E:=eCt) HOWN.out HCS.out HM3.out ho hg hat);have HB4:=Ak (HB3.out.trans hb);clear ho hb hg hat)))
      go_roundw
      case rel=>exact ⟨r,at_+u,acc ++ [l5],by go_num,by go_num,by simp only [List.length_append,List.length_singleton];omega,by omega,hu3,⟨by rw [HK.out,HRR.out]⟩,HO4,HB4⟩
      case measure=>(simp [intOf];try omega)
end Go.Proofs.Ytcgkeolgflphiaa

namespace Go.Proofs.Ytcgkeolgflphiaa
open Go.RowKit Go.Proofs.YtcgkeolgflphiaaW.PrintWords Go.RegionInvYtcgkeolgflphiaa

set_option maxHeartbeats 4000000 in
theorem listOfCt_bad (g:Nat) (er most:Int) (w:World) (h:RdBad w g er) (he:er≠0) :
  Calls Try.prog 90 #[.pointer (some ⟨g,0,none⟩),.int .i64 most,.func (.func 91) #[] #[]] w fun e w'=>e=.returned (.slice none 0 0)∧Below w.heap.size w w':=by
 have hb1:=below_alloc (Below.refl w.heap.size w) (.cells #[.func (.func 91) #[] #[]] 114 (0,0))
 have HB1:=Ak hb1
 obtain ⟨A,n,c,N,m,hg⟩:=h.below hb1
 have he':(er != 0)=true:=by simp [he]
 have HG:=Ak hg
 clear he h hb1 hg
 go_enter Try.func90,Try.ntmps90
 go_upto_region 1 with (fail)
 obtain ⟨W1,hW1⟩:∃ W1,W1=w.alloc (.cells #[.func (.func 91) #[] #[]] 114 (0,0)):=⟨_,rfl⟩
 rw [← hW1] at HB1 HG ⊢
 clear hW1
 obtain ⟨c0,c1,c2,c3,z0,z1,z2,z3⟩:=row4 HG.out
 go_wp2
 go_ret
 exact ⟨rfl,HB1.out⟩
set_option maxHeartbeats 8000000 in
theorem listOfCt_calls (g:Nat) (xs:List Int) (N m most:Int) (w:World) (h:RdOk w g xs N m) (hm0:0≤most) (hm1:most≤16) :
  Calls Try.prog 90 #[.pointer (some ⟨g,0,none⟩),.int .i64 most,.func (.func 91) #[] #[]] w (ListRd eCt w g N m (listR most ctR xs)):=by
 have hb1:=below_alloc (Below.refl w.heap.size w) (.cells #[.func (.func 91) #[] #[]] 114 (0,0))
 have HB1:=Ak hb1
 have HF1:=Ak (blk_new w (.cells #[.func (.func 91) #[] #[]] 114 (0,0)))
 obtain ⟨A,n,c,hg,hs⟩:=h.below hb1
 have HG:=Ak hg
 have HS:=Ak hs
 have HGL:=Ak h.lt
 clear h hb1 hg hs
 go_enter Try.func90,Try.ntmps90
 go_upto_region 1 with (fail)
 obtain ⟨gf,hgf⟩:∃ gf,gf=w.heap.size:=⟨_,rfl⟩
 rw [← hgf]
 obtain ⟨W1,hW1⟩:∃ W1,W1=w.alloc (.cells #[.func (.func 91) #[] #[]] 114 (0,0)):=⟨_,rfl⟩
 rw [← hW1] at HB1 HF1 HG HS ⊢
 rw [← hgf] at HF1
 have HZ:=Ak (show w.heap.size≤W1.heap.size by rw [hW1];simp)
 clear hW1 hgf
 obtain ⟨c0,c1,c2,c3,z0,z1,z2,z3⟩:=row4 HG.out
 go_upto_region 4 with (go_at_call 108;go_must (refine (takeCt_calls gf A n c xs most _ (HS.out.mono (Nat.le_of_lt (blk_lt HG.out))) hm0 hm1 HF1.out).mono ?_;rintro e w2 ⟨V,l,cnt,er,rfl,hrow,hb,htk⟩;have HG2:=Ak (blk_below HG.out hb);have HS2:=Ak (HS.out.chg (S:=fun _=>False) (Nat.le_of_lt (blk_lt HG.out)) (fun _ h=>h.elim) (Chg.of_below hb));have HROW:=Ak hrow;have HTK:=Ak htk;have HB2:=Ak hb;clear hrow hb htk))
 clear c0 c1 c2 c3 z0 z1 z2 z3
 cases hR:listR most ctR xs with
 | error k =>
  have htk:=HTK.out
  rw [hR] at htk
  obtain ⟨rfl,rfl,rfl,rfl,hne⟩:=htk
  have HNE:=Ak hne
  have HRE:=Ak hR
  clear hR hne HTK
  go_wp2_with (go_at_call 106;go_must (refine (skip_no g A n c N m 0 er _ HG2.out HNE.out).mono ?_;rintro e w' ⟨rfl,hw⟩;subst hw))
  go_ret
  exact ⟨_,[],rfl,RowG.nil _ _ _,chg_trans (Chg.of_below HB1.out) (chg_trans (Chg.of_below HB2.out) (chg_set _ _ _ _)),by rw [HRE.out];exact ⟨rfl,_,_,_,_,_,rd4_3 HG2.out⟩⟩
 | ok y =>
  obtain ⟨l',r⟩:=y
  have htk:=HTK.out
  rw [hR] at htk
  obtain ⟨rfl,rfl,u,rfl,hu1,hu2,hrr⟩:=htk
  have hu3:u≤n:=by rw [HS.out.reads.1] at hu2;exact hu2
  obtain ⟨A',hcut,hcs⟩:=cut_old (A:=A) (n:=n) (c:=c) u hu3
  have HCUT:=Ak hcut
  have HCS:=Ak (hcs _ g xs HS2.out)
  have HRR:=Ak hrr
  have HRE:=Ak hR
  clear hR HTK hcut hcs hrr hu2
  go_wp2_with (go_at_call 106;go_must (refine (skip_ok g A A' n c (n - u) (c - u) N m u _ HG2.out HCUT.out).mono ?_;rintro e w' ⟨rfl,hw⟩;subst hw))
  go_ret
  have HRX:=HROW.out
  exact ⟨_,l,rfl,list_row HRX HZ.out HGL.out,chg_trans (Chg.of_below HB1.out) (chg_trans (Chg.of_below HB2.out) (chg_set _ _ _ _)),by rw [HRE.out];exact ⟨rfl,A',n - u,c - u,rd4_0 HG2.out,by rw [HRR.out];exact HCS.out.chg (Nat.le_of_lt (blk_lt HG2.out)) (fun k e=>Nat.le_of_eq e.symm) (chg_set _ _ _ _)⟩⟩
end Go.Proofs.Ytcgkeolgflphiaa

namespace Go.Proofs.Ytcgkeolgflphiaa
open Go.RowKit Go.Proofs.YtcgkeolgflphiaaW.PrintWords Go.RegionInvYtcgkeolgflphiaa

set_option maxHeartbeats 4000000 in
theorem set21v {w:World} {g:Nat} {x0 x1 x2 x3 x4 x5 x6 x7 x8 x9 x10 x11 x12 x13 x14 x15 x16 x17 x18 x19 x20 a11 a12 a13 a14 a15 a16 a17 a18:Value} {t:TypeId} (h:w.heap[g]?=some (.cells #[x0,x1,x2,x3,x4,x5,x6,x7,x8,x9,x10,x11,x12,x13,x14,x15,x16,x17,x18,x19,x20] t (0,0))) :
  ((((((((w.setCell ⟨g,11,none⟩ a11).setCell ⟨g,12,none⟩ a12).setCell ⟨g,13,none⟩ a13).setCell ⟨g,14,none⟩ a14).setCell ⟨g,15,none⟩ a15).setCell ⟨g,16,none⟩ a16).setCell ⟨g,17,none⟩ a17).setCell ⟨g,18,none⟩ a18).heap[g]?=some (.cells #[x0,x1,x2,x3,x4,x5,x6,x7,x8,x9,x10,a11,a12,a13,a14,a15,a16,a17,a18,x19,x20] t (0,0)):=by
 have h11:(w.setCell ⟨g,11,none⟩ a11).heap[g]?=some (.cells #[x0,x1,x2,x3,x4,x5,x6,x7,x8,x9,x10,a11,x12,x13,x14,x15,x16,x17,x18,x19,x20] t (0,0)):=blk_put h 11 a11 rfl
 have h12:((w.setCell ⟨g,11,none⟩ a11).setCell ⟨g,12,none⟩ a12).heap[g]?=some (.cells #[x0,x1,x2,x3,x4,x5,x6,x7,x8,x9,x10,a11,a12,x13,x14,x15,x16,x17,x18,x19,x20] t (0,0)):=blk_put h11 12 a12 rfl
 have h13:(((w.setCell ⟨g,11,none⟩ a11).setCell ⟨g,12,none⟩ a12).setCell ⟨g,13,none⟩ a13).heap[g]?=some (.cells #[x0,x1,x2,x3,x4,x5,x6,x7,x8,x9,x10,a11,a12,a13,x14,x15,x16,x17,x18,x19,x20] t (0,0)):=blk_put h12 13 a13 rfl
 have h14:((((w.setCell ⟨g,11,none⟩ a11).setCell ⟨g,12,none⟩ a12).setCell ⟨g,13,none⟩ a13).setCell ⟨g,14,none⟩ a14).heap[g]?=some (.cells #[x0,x1,x2,x3,x4,x5,x6,x7,x8,x9,x10,a11,a12,a13,a14,x15,x16,x17,x18,x19,x20] t (0,0)):=blk_put h13 14 a14 rfl
 have h15:(((((w.setCell ⟨g,11,none⟩ a11).setCell ⟨g,12,none⟩ a12).setCell ⟨g,13,none⟩ a13).setCell ⟨g,14,none⟩ a14).setCell ⟨g,15,none⟩ a15).heap[g]?=some (.cells #[x0,x1,x2,x3,x4,x5,x6,x7,x8,x9,x10,a11,a12,a13,a14,a15,x16,x17,x18,x19,x20] t (0,0)):=blk_put h14 15 a15 rfl
 have h16:((((((w.setCell ⟨g,11,none⟩ a11).setCell ⟨g,12,none⟩ a12).setCell ⟨g,13,none⟩ a13).setCell ⟨g,14,none⟩ a14).setCell ⟨g,15,none⟩ a15).setCell ⟨g,16,none⟩ a16).heap[g]?=some (.cells #[x0,x1,x2,x3,x4,x5,x6,x7,x8,x9,x10,a11,a12,a13,a14,a15,a16,x17,x18,x19,x20] t (0,0)):=blk_put h15 16 a16 rfl
 have h17:(((((((w.setCell ⟨g,11,none⟩ a11).setCell ⟨g,12,none⟩ a12).setCell ⟨g,13,none⟩ a13).setCell ⟨g,14,none⟩ a14).setCell ⟨g,15,none⟩ a15).setCell ⟨g,16,none⟩ a16).setCell ⟨g,17,none⟩ a17).heap[g]?=some (.cells #[x0,x1,x2,x3,x4,x5,x6,x7,x8,x9,x10,a11,a12,a13,a14,a15,a16,a17,x18,x19,x20] t (0,0)):=blk_put h16 17 a17 rfl
 have h18:((((((((w.setCell ⟨g,11,none⟩ a11).setCell ⟨g,12,none⟩ a12).setCell ⟨g,13,none⟩ a13).setCell ⟨g,14,none⟩ a14).setCell ⟨g,15,none⟩ a15).setCell ⟨g,16,none⟩ a16).setCell ⟨g,17,none⟩ a17).setCell ⟨g,18,none⟩ a18).heap[g]?=some (.cells #[x0,x1,x2,x3,x4,x5,x6,x7,x8,x9,x10,a11,a12,a13,a14,a15,a16,a17,a18,x19,x20] t (0,0)):=blk_put h17 18 a18 rfl
 exact h18
theorem chg_set21v (w:World) (g:Nat) (a11 a12 a13 a14 a15 a16 a17 a18:Value):Chg (fun k=>k=g) w ((((((((w.setCell ⟨g,11,none⟩ a11).setCell ⟨g,12,none⟩ a12).setCell ⟨g,13,none⟩ a13).setCell ⟨g,14,none⟩ a14).setCell ⟨g,15,none⟩ a15).setCell ⟨g,16,none⟩ a16).setCell ⟨g,17,none⟩ a17).setCell ⟨g,18,none⟩ a18):=chg_trans (chg_trans (chg_trans (chg_trans (chg_trans (chg_trans (chg_trans (chg_set _ _ _ _) (chg_set _ _ _ _)) (chg_set _ _ _ _)) (chg_set _ _ _ _)) (chg_set _ _ _ _)) (chg_set _ _ _ _)) (chg_set _ _ _ _)) (chg_set _ _ _ _)
theorem row21v {w:World} {g:Nat} {x0 x1 x2 x3 x4 x5 x6 x7 x8 x9 x10 x11 x12 x13 x14 x15 x16 x17 x18 x19 x20:Value} {t:TypeId} (h:w.heap[g]?=some (.cells #[x0,x1,x2,x3,x4,x5,x6,x7,x8,x9,x10,x11,x12,x13,x14,x15,x16,x17,x18,x19,x20] t (0,0))) :
  (w.cell? ⟨g,11,none⟩=some x11∧w.cell? ⟨g,12,none⟩=some x12∧w.cell? ⟨g,13,none⟩=some x13∧w.cell? ⟨g,14,none⟩=some x14∧w.cell? ⟨g,15,none⟩=some x15∧w.cell? ⟨g,16,none⟩=some x16∧w.cell? ⟨g,17,none⟩=some x17∧w.cell? ⟨g,18,none⟩=some x18∧w.cell? ⟨g,19,none⟩=some x19∧w.cell? ⟨g,20,none⟩=some x20)∧w.frozen? ⟨g,11,none⟩=false∧w.frozen? ⟨g,12,none⟩=false∧w.frozen? ⟨g,13,none⟩=false∧w.frozen? ⟨g,14,none⟩=false∧w.frozen? ⟨g,15,none⟩=false∧w.frozen? ⟨g,16,none⟩=false∧w.frozen? ⟨g,17,none⟩=false∧w.frozen? ⟨g,18,none⟩=false∧w.frozen? ⟨g,19,none⟩=false∧w.frozen? ⟨g,20,none⟩=false:=by
 refine ⟨⟨?_,?_,?_,?_,?_,?_,?_,?_,?_,?_⟩,blk_frozen h 11,blk_frozen h 12,blk_frozen h 13,blk_frozen h 14,blk_frozen h 15,blk_frozen h 16,blk_frozen h 17,blk_frozen h 18,blk_frozen h 19,blk_frozen h 20⟩ <;> (rw [cell_of_row _ _ _ _ _ _ h];rfl)
abbrev dzO:Obj:=.cells zdcA 30 (0,0)
structure DcBx (w W:World) (g gO:Nat) (P:DPl) (d:Dc):Prop where
 out:W.heap[gO]?=some (dcO P d)
 res:W.heap[w.heap.size]?=some dzO
 chg:Chg (fun k=>k=g) w W
 far:w.heap.size<gO
 glt:g<w.heap.size
 mem:DcS W (fun b=>w.heap.size<b∧b≠gO) P d
theorem DcBx.reader {w W W':World} {g gO:Nat} {P:DPl} {d:Dc} (h:DcBx w W g gO P d) (hc:Chg (fun k=>k=g) W W'):DcBx w W' g gO P d:=by
 have h1:=h.far
 have h2:=h.glt
 exact ⟨(hc.block _ (blk_lt h.out) (by omega)).trans h.out,(hc.block _ (blk_lt h.res) (by omega)).trans h.res,chg_trans h.chg hc,h.far,h.glt,h.mem.same fun k hk hz=>hc.block k hz (by have:=hk.1;omega)⟩
theorem DcBx.upd {w W W':World} {g gO:Nat} {P P':DPl} {d d':Dc} (h:DcBx w W g gO P d) (hc:Chg (fun k=>k=gO) W W') (ho:W'.heap[gO]?=some (dcO P' d')) (hm:DcS W (fun b=>w.heap.size<b∧b≠gO) P' d'):DcBx w W' g gO P' d':=by
 have h1:=h.far
 have h2:=h.glt
 refine ⟨ho,(hc.block _ (blk_lt h.res) (by omega)).trans h.res,⟨hc.os.trans h.chg.os,hc.tape.trans h.chg.tape,hc.output.trans h.chg.output,Nat.le_trans h.chg.size hc.size,fun i hi hs=>?_⟩,h1,h2,hm.same fun k hk hz=>hc.block k hz hk.2⟩
 rw [hc.block i (Nat.lt_of_lt_of_le hi h.chg.size) (by omega),h.chg.block i hi hs]
def AnyDc (w:World) (g:Nat) (R:Except Int (Dc × List Int)) (e:Ending) (w':World):Prop:=
 ∃ P d,e=.returned (dcV P d)∧DcS w' (fun b=>w.heap.size≤b) P d∧Chg (fun k=>k=g) w w'∧RS w' g (restR R)∧valIs d R
theorem dcBx_new {w w5:World} {g B:Nat} {P:DPl} {d:Dc} (hg:g<w.heap.size) (hc:Chg (fun k=>k=g) w w5) (hr:w5.heap[w.heap.size]?=some dzO) (hm:DcS w5 (fun b=>B≤b) P d) (hB:w.heap.size<B):DcBx w ((w5.alloc dzO).setRow w5.heap.size (dcA P d)) g w5.heap.size P d:=by
 have hs:=dc_boxed w5 P d
 have hlt:=blk_lt hr
 refine ⟨hs.1,(hs.2.block _ hlt).trans hr,chg_trans hc (Chg.of_below hs.2),hlt,hg,(hm.mono (S':=fun b=>(w.heap.size<b∧b≠w5.heap.size)∧b<w5.heap.size) fun k hk hz=>⟨⟨by omega,by omega⟩,hz⟩).same (fun k hk hz=>hs.2.block k hz) |>.mono fun k hk _=>hk.1⟩
theorem chg_setRow (w:World) (g:Nat) (cs:Array Value):Chg (fun k=>k=g) w (w.setRow g cs):=⟨rfl,rfl,rfl,Nat.le_of_eq (size_setRow _ _ _).symm,fun k _ hn=>setRow_other w g k _ hn⟩
theorem dc_fin {w wc:World} {g gO:Nat} {P:DPl} {d:Dc} {R:Except Int (Dc × List Int)} (hb:DcBx w wc g gO P d) (hm:RS wc g (restR R)) (hv:valIs d R):AnyDc w g R (.returned (dcV P d)) (wc.setRow w.heap.size (dcA P d)):=by
 have hch:=chg_setRow wc w.heap.size (dcA P d)
 have hglt:=hb.glt
 refine ⟨P,d,rfl,(hb.mem.same fun k hk _=>hch.block k (by assumption) (by have:=hk.1;omega)).mono fun k hk _=>Nat.le_of_lt hk.1,⟨hch.os.trans hb.chg.os,hch.tape.trans hb.chg.tape,hch.output.trans hb.chg.output,Nat.le_trans hb.chg.size hch.size,fun i hi hs=>?_⟩,hm.chg (S:=fun k=>k=w.heap.size) (fun k e=>by omega) hch,hv⟩
 rw [hch.block i (Nat.lt_of_lt_of_le hi hb.chg.size) (by omega),hb.chg.block i hi hs]
def R1 (s:Except Int (List Int)):=nextR s (kindR 3)
def R2 (s:Except Int (List Int)):=nextR (restR (R1 s)) nameR
def R3 (s:Except Int (List Int)):=nextR (restR (R2 s)) numR
def R4 (s:Except Int (List Int)):=nextR (restR (R3 s)) wholeR
def aftR (k:Int) (nm:ByteArray) (v:Int) (t:Tm) (R:Except Int (Tm × List Int)):Except Int (Dc × List Int):=match R with
 | .error e=>.error e
 | .ok (_,r)=>dcRr k nm v t r
theorem dc_chain {s:Except Int (List Int)} {k v:Int} {nm:ByteArray} {t:Tm} (h1:valIs k (R1 s)) (h2:valIs nm (R2 s)) (h3:valIs v (R3 s)) (h4:valIs t (R4 s)):nextR s dcR=aftR k nm v t (R4 s):=by
 cases s with
 | error e=>rfl
 | ok xs =>
  have e1:R1 (.ok xs)=kindR 3 xs:=rfl
  show dcR xs=_
  unfold dcR
  cases hk:kindR 3 xs with
  | error e =>
   have:R4 (.ok xs)=.error e:=by unfold R4 R3 R2 R1;simp only [nextR];rw [hk];rfl
   rw [this];rfl
  | ok y =>
   obtain ⟨k',r1⟩:=y
   rw [e1,hk] at h1
   obtain rfl:k=k':=h1
   have e2:R2 (.ok xs)=nameR r1:=by unfold R2 R1;simp only [nextR];rw [hk];rfl
   simp only []
   cases hn:nameR r1 with
   | error e =>
    have:R4 (.ok xs)=.error e:=by unfold R4 R3;rw [e2,hn];rfl
    rw [this];rfl
   | ok y =>
    obtain ⟨nm',r2⟩:=y
    rw [e2,hn] at h2
    obtain rfl:nm=nm':=h2
    have e3:R3 (.ok xs)=numR r2:=by unfold R3;rw [e2,hn];rfl
    simp only []
    cases hv:numR r2 with
    | error e =>
     have:R4 (.ok xs)=.error e:=by unfold R4;rw [e3,hv];rfl
     rw [this];rfl
    | ok y =>
     obtain ⟨v',r3⟩:=y
     rw [e3,hv] at h3
     obtain rfl:v=v':=h3
     have e4:R4 (.ok xs)=wholeR r3:=by unfold R4;rw [e3,hv];rfl
     simp only []
     rw [e4] at h4 ⊢
     cases ht:wholeR r3 with
     | error e=>rfl
     | ok y =>
      rw [ht] at h4
      obtain rfl:t=y.1:=h4
      rfl
theorem aft_def {nm:ByteArray} {v:Int} {t x:Tm} {R:Except Int (Tm × List Int)} (h:valIs x (nextR (restR R) wholeR)):restR (aftR 2 nm v t R)=restR (nextR (restR R) wholeR)∧valIs (⟨2,nm,v,t,x,0,[]⟩:Dc) (aftR 2 nm v t R):=by
 cases R with
 | error e=>exact ⟨rfl,trivial⟩
 | ok y =>
  have e1:aftR 2 nm v t (.ok y)=dcRr 2 nm v t y.2:=rfl
  have e2:nextR (restR (.ok y:Except Int (Tm × List Int))) wholeR=wholeR y.2:=rfl
  rw [e2] at h
  rw [e1,e2]
  unfold dcRr
  rw [if_pos rfl]
  cases hw:wholeR y.2 with
  | error e=>exact ⟨rfl,trivial⟩
  | ok z=>rw [hw] at h;exact ⟨rfl,by rw [show x=z.1 from h];rfl⟩
theorem aft_ind {nm:ByteArray} {v p:Int} {t:Tm} {l:List Ct} {R:Except Int (Tm × List Int)} (h:valIs p (nextR (restR R) numR)) (h2:valIs l (nextR (restR (nextR (restR R) numR)) (listR 8 ctR))):restR (aftR 3 nm v t R)=restR (nextR (restR (nextR (restR R) numR)) (listR 8 ctR))∧valIs (⟨3,nm,v,t,noT,p,l⟩:Dc) (aftR 3 nm v t R):=by
 cases R with
 | error e=>exact ⟨rfl,trivial⟩
 | ok y =>
  have e1:aftR 3 nm v t (.ok y)=dcRr 3 nm v t y.2:=rfl
  have e2:nextR (restR (.ok y:Except Int (Tm × List Int))) numR=numR y.2:=rfl
  rw [e2] at h h2
  rw [e1,e2]
  unfold dcRr
  rw [if_neg (by decide),if_pos rfl]
  cases hw:numR y.2 with
  | error e=>exact ⟨rfl,trivial⟩
  | ok z =>
   rw [hw] at h h2
   have e3:nextR (restR (.ok z:Except Int (Int × List Int))) (listR 8 ctR)=listR 8 ctR z.2:=rfl
   rw [e3] at h2 ⊢
   simp only []
   cases hl:listR 8 ctR z.2 with
   | error e=>exact ⟨rfl,trivial⟩
   | ok u=>rw [hl] at h2;exact ⟨rfl,by rw [show p=z.1 from h,show l=u.1 from h2];rfl⟩
theorem aft_ax {k v:Int} {nm:ByteArray} {t:Tm} {R:Except Int (Tm × List Int)} (h2:k≠2) (h3:k≠3):restR (aftR k nm v t R)=restR R∧valIs (⟨k,nm,v,t,noT,0,[]⟩:Dc) (aftR k nm v t R):=by
 cases R with
 | error e=>exact ⟨rfl,trivial⟩
 | ok y =>
  have e1:aftR k nm v t (.ok y)=dcRr k nm v t y.2:=rfl
  rw [e1]
  unfold dcRr
  rw [if_neg h2,if_neg h3]
  exact ⟨rfl,rfl⟩
def pl00:DPl:=⟨⟨none,0,none,0,none,0⟩,⟨none,0,none,0,none,0⟩,none,0,fun _=>default⟩
theorem noT_in (w:World) (S:Nat→Prop):TmS w S ⟨none,0,none,0,none,0⟩ noT:=.mk (fun _=>default) (LvS.leaf0 _ _ _ _) (LvS.leaf0 _ _ _ _) (Nat.le_refl _) (Nat.zero_le _) (fit_n (n:=0) (by decide)) (fun i x h=>by simp at h) (fun i x h=>by simp at h)
theorem rowCt_dc {w:World} {lo:Nat} {V:Value} {xs:List Ct} (h:RowG eCt w lo V xs):∃ (C:Option Addr) (e:Nat) (q:Nat→Pl),V=.slice C xs.length e∧(xs.length≤e∧e≤9223372036854775807)∧∀ (i:Nat) (c:Ct),xs[i]?=some c→CtAt w (fun b=>lo≤b) C i (q i) c∧TmS w (fun b=>lo≤b) (q i) c.ty∧c.nm.size≤140737488355328:=by
 obtain ⟨cs,q,ho,hk⟩:=h
 obtain ⟨C,e,rfl⟩:=own_slice ho
 refine ⟨C,e,q,rfl,⟨own_cap ho,own_max ho⟩,fun i c hc=>?_⟩
 have hi:i<xs.length:=by
  rcases Nat.lt_or_ge i xs.length with h | h
  ·exact h
  ·rw [List.getElem?_eq_none h] at hc;cases hc
 obtain ⟨g,cap,hv,hb,_⟩:=ho.form (by omega)
 have hv':=hv
 injection hv with hA
 have hm:=(hk i c hc).2
 refine ⟨⟨g,0,hA,hb,fun j v hjv=>?_⟩,TmS.mono hm.1 fun b hb _=>hb.1,hm.2⟩
 have:=ho.cells (g:=g) (by rw [hv'];rfl) _ _ ((hk i c hc).1 j v hjv)
 rwa [show (⟨g,0,none⟩:Addr).add (i * eCt.sz+j)=⟨g,0+(i * 9+j),none⟩ from add_flat g 0 _,← Nat.add_assoc] at this
def AnyCs (w:World) (g:Nat) (R:Except Int (List Ct × List Int)) (e:Ending) (w':World):Prop:=
 ∃ V l,e=.returned V∧RowG eCt w' w.heap.size V l∧Chg (fun k=>k=g) w w'∧RS w' g (restR R)∧valIs l R
theorem list_any (g:Nat) (s:Except Int (List Int)) (w:World) (h:RS w g s) :
  Calls Try.prog 90 #[.pointer (some ⟨g,0,none⟩),.int .i64 8,.func (.func 91) #[] #[]] w (AnyCs w g (nextR s (listR 8 ctR))):=by
 cases s with
 | error er =>
  refine (listOfCt_bad g er 8 w h.2 h.1).mono ?_
  rintro e w' ⟨rfl,hb⟩
  exact ⟨_,[],rfl,RowG.nil _ _ _,Chg.of_below hb,RS.below (s:=.error er) h hb,trivial⟩
 | ok xs =>
  obtain ⟨N,m,h⟩:=h
  refine (listOfCt_calls g xs N m 8 w h (by decide) (by decide)).mono ?_
  rintro e w' ⟨V,l,rfl,hr,hc,hst⟩
  refine ⟨V,l,rfl,hr,hc,?_⟩
  show RS w' g (restR (listR 8 ctR xs))∧valIs l (listR 8 ctR xs)
  cases hR:listR 8 ctR xs with
  | error er=>rw [hR] at hst;exact ⟨⟨list_err (fun h=>ct_err h) hR,hst.2⟩,trivial⟩
  | ok y=>rw [hR] at hst;exact ⟨⟨N,m,hst.2⟩,hst.1⟩
end Go.Proofs.Ytcgkeolgflphiaa

namespace Go.Proofs.Ytcgkeolgflphiaa
open Go.RowKit Go.Proofs.YtcgkeolgflphiaaW.PrintWords Go.RegionInvYtcgkeolgflphiaa

set_option maxRecDepth 100000 in
set_option maxHeartbeats 8000000 in
theorem decl_any (g:Nat) (s:Except Int (List Int)) (w:World) (h:RS w g s) :
  Calls Try.prog 68 #[.pointer (some ⟨g,0,none⟩)] w (AnyDc w g (nextR s dcR)):=by
 have HGL:=Ak h.lt
 have HM0:=Ak (h.below (below_alloc (Below.refl _ _) dzO))
 have HX0:=Ak (blk_new w dzO)
 have HC0:=Ak (show Chg (fun k=>k=g) w (w.alloc dzO) from Chg.of_below (below_alloc (Below.refl w.heap.size w) dzO))
 clear h
 go_enter Try.func68,Try.ntmps68
 go_upto_region 1 with (fail)
 obtain ⟨W0,hW0⟩:∃ W0,W0=w.alloc dzO:=⟨_,rfl⟩
 rw [← hW0] at HM0 HX0 HC0 ⊢
 clear hW0
 go_upto_region 2 with (first
  | (go_at_call 86;go_must (refine (kind_any g s 3 _ HM0.out (by decide) (by decide)).mono ?_;rintro e w1 ⟨k,rfl,hc1,hm1,hv1⟩;have HX1:=Ak ((hc1.block _ (blk_lt HX0.out) (by have:=HGL.out;omega)).trans HX0.out);have HC1:=Ak (chg_trans HC0.out hc1);have HM1:=Ak hm1;have HV1:=Ak hv1;clear hc1 hm1 hv1))
  | (go_at_call 87;go_must (refine (name_any g _ _ HM1.out).mono ?_;rintro e w2 ⟨nm,rfl,hsz,hc2,hm2,hv2⟩;have HSZ:=Ak hsz;clear hsz;have HX2:=Ak ((hc2.block _ (blk_lt HX1.out) (by have:=HGL.out;omega)).trans HX1.out);have HC2:=Ak (chg_trans HC1.out hc2);have HM2:=Ak hm2;have HV2:=Ak hv2;clear hc2 hm2 hv2))
  | (go_at_call 88;go_must (refine (num_any g _ _ HM2.out).mono ?_;rintro e w3 ⟨vv,rfl,hc3,hm3,hv3⟩;have HX3:=Ak ((hc3.block _ (blk_lt HX2.out) (by have:=HGL.out;omega)).trans HX2.out);have HC3:=Ak (chg_trans HC2.out hc3);have HM3:=Ak hm3;have HV3:=Ak hv3;clear hc3 hm3 hv3))
  | (go_at_call 89;go_must (refine (whole_any g _ _ HM3.out).mono ?_;rintro e w5 ⟨p5,t5,rfl,hl5,hc5,hm5,hv5⟩;have HL5:=Ak hl5;clear hl5;have HX5:=Ak ((hc5.block _ (blk_lt HX3.out) (by have:=HGL.out;omega)).trans HX3.out);have HC5:=Ak (chg_trans HC3.out hc5);have HM5:=Ak hm5;have HV5:=Ak hv5;clear hc5 hm5 hv5;simp only [tmV]))
  | (refine wpList_store_row rfl 30 _ _ rfl w5.heap.size #[.int .i64 k,.string nm,.int .i64 vv,.int .i64 t5.kind,.int .i64 t5.num,.string t5.name,.int .i64 t5.lv.kind,.int .i64 t5.lv.num,.slice p5.A t5.lv.kids.length p5.c,.slice p5.B t5.ls.length p5.d,.slice p5.K t5.kids.length p5.e,.int .i64 0,.int .i64 0,.string ⟨#[]⟩,.int .i64 0,.int .i64 0,.slice none 0 0,.slice none 0 0,.slice none 0 0,.int .i64 0,.slice none 0 0] rfl rfl 30 #[.int .i64 0,.string ⟨#[]⟩,.int .i64 0,.int .i64 0,.int .i64 0,.string ⟨#[]⟩,.int .i64 0,.int .i64 0,.slice none 0 0,.slice none 0 0,.slice none 0 0,.int .i64 0,.int .i64 0,.string ⟨#[]⟩,.int .i64 0,.int .i64 0,.slice none 0 0,.slice none 0 0,.slice none 0 0,.int .i64 0,.slice none 0 0] (blk_new _ _) (by kernel_rfl) rfl (all_one (l:=[.int .i64 k,.string nm,.int .i64 vv,.int .i64 t5.kind,.int .i64 t5.num,.string t5.name,.int .i64 t5.lv.kind,.int .i64 t5.lv.num,.slice p5.A t5.lv.kids.length p5.c,.slice p5.B t5.ls.length p5.d,.slice p5.K t5.kids.length p5.e,.int .i64 0,.int .i64 0,.string ⟨#[]⟩,.int .i64 0,.int .i64 0,.slice none 0 0,.slice none 0 0,.slice none 0 0,.int .i64 0,.slice none 0 0]) rfl) ?_))
 obtain ⟨d1,hd1⟩:∃ d1:Dc,d1=⟨k,nm,vv,t5,noT,0,[]⟩:=⟨_,rfl⟩
 obtain ⟨P1,hP1⟩:∃ P1:DPl,P1=⟨p5,⟨none,0,none,0,none,0⟩,none,0,fun _=>default⟩:=⟨_,rfl⟩
 have HB6:=Ak (dcBx_new (P:=⟨p5,⟨none,0,none,0,none,0⟩,none,0,fun _=>default⟩) (d:=⟨k,nm,vv,t5,noT,0,[]⟩) HGL.out HC5.out HX5.out ⟨HL5.out,noT_in _ _,⟨Nat.le_refl _,Nat.zero_le _⟩,HSZ.out,fun i c h=>by simp at h⟩ (blk_lt HX3.out))
 have HM6:=Ak (HM5.out.below (dc_boxed w5 ⟨p5,⟨none,0,none,0,none,0⟩,none,0,fun _=>default⟩ ⟨k,nm,vv,t5,noT,0,[]⟩).2)
 obtain ⟨gO,hgO⟩:∃ gO,gO=w5.heap.size:=⟨_,rfl⟩
 obtain ⟨W6,hW6⟩:∃ W6,W6=(w5.alloc (.cells #[.int .i64 0,.string ⟨#[]⟩,.int .i64 0,.int .i64 0,.int .i64 0,.string ⟨#[]⟩,.int .i64 0,.int .i64 0,.slice none 0 0,.slice none 0 0,.slice none 0 0,.int .i64 0,.int .i64 0,.string ⟨#[]⟩,.int .i64 0,.int .i64 0,.slice none 0 0,.slice none 0 0,.slice none 0 0,.int .i64 0,.slice none 0 0] 30 (0,0))).setRow w5.heap.size #[.int .i64 k,.string nm,.int .i64 vv,.int .i64 t5.kind,.int .i64 t5.num,.string t5.name,.int .i64 t5.lv.kind,.int .i64 t5.lv.num,.slice p5.A t5.lv.kids.length p5.c,.slice p5.B t5.ls.length p5.d,.slice p5.K t5.kids.length p5.e,.int .i64 0,.int .i64 0,.string ⟨#[]⟩,.int .i64 0,.int .i64 0,.slice none 0 0,.slice none 0 0,.slice none 0 0,.int .i64 0,.slice none 0 0]:=⟨_,rfl⟩
 rw [← hgO] at hW6 HB6 HM6 ⊢
 rw [← hW6]
 replace HB6:Aside0 (DcBx w W6 g gO ⟨p5,⟨none,0,none,0,none,0⟩,none,0,fun _=>default⟩ ⟨k,nm,vv,t5,noT,0,[]⟩):=by rw [hW6];exact HB6
 replace HM6:Aside0 (RS W6 g (restR (R4 s))):=by rw [hW6];exact HM6
 have HSO:=Ak (blk_lt HB6.out.out)
 clear hgO hW6
 have HCH:=Ak (dc_chain (s:=s) (k:=k) (v:=vv) (nm:=nm) (t:=t5) HV1.out HV2.out HV3.out HV5.out)
 have d0:W6.cell? ⟨gO,0,none⟩=some (.int .i64 k):=by rw [cell_of_row _ _ _ _ _ _ HB6.out.out];rfl
 go_upto_block 0 with (fail)
 go_cut [] (fun w8=>∃ P d,Aside0 (DcBx w w8 g gO P d)∧Aside0 (RS w8 g (restR (nextR s dcR)))∧Aside0 (valIs d (nextR s dcR)))
 case first =>
  by_cases k2:k=2
  ·subst k2
   go_wp2_with (go_at_call 89;go_must (refine (whole_any g _ _ HM6.out).mono ?_;rintro e w7 ⟨p7,t7,rfl,hl7,hc7,hm7,hv7⟩;have HB7:=Ak (HB6.out.reader hc7);have HL7:=Ak hl7;have HM7:=Ak hm7;have HV7:=Ak hv7;clear hl7 hc7 hm7 hv7;simp only [tmV];obtain ⟨⟨b11,b12,b13,b14,b15,b16,b17,b18,-⟩,z11,z12,z13,z14,z15,z16,z17,z18,-⟩:=row21v HB7.out.out))
   go_meet
   case rel =>
    have hf:=HB7.out.far
    have hg:=HB7.out.glt
    have ho:=HSO.out
    have ha:=aft_def (nm:=nm) (v:=vv) (t:=t5) (R:=R4 s) HV7.out
    refine ⟨⟨p5,p7,none,0,fun _=>default⟩,⟨2,nm,vv,t5,t7,0,[]⟩,⟨HB7.out.upd (chg_set21v _ _ _ _ _ _ _ _ _ _) (set21v HB7.out.out) ⟨HB7.out.mem.ty,HL7.out.mono fun k hk _=>⟨by omega,by omega⟩,⟨Nat.le_refl _,Nat.zero_le _⟩,HSZ.out,fun i c h=>by simp at h⟩⟩,⟨?_⟩,⟨?_⟩⟩
    ·rw [HCH.out,ha.1];exact HM7.out.chg (S:=fun k=>k=gO) (fun k e=>by omega) (chg_set21v _ _ _ _ _ _ _ _ _ _)
    ·rw [HCH.out];exact ha.2
  ·have hk2:(k == 2)=false:=by simp [k2]
   by_cases k3:k=3
   ·subst k3
    go_upto_region 7 with (go_at_call 88;go_must (refine (num_any g _ _ HM6.out).mono ?_;rintro e w7 ⟨q7,rfl,hc7,hm7,hv7⟩;have HB7:=Ak (HB6.out.reader hc7);have HM7:=Ak hm7;have HV7:=Ak hv7;have HZ7:=Ak hc7.size;clear hc7 hm7 hv7;obtain ⟨⟨-,-,-,-,-,-,-,-,b19,-⟩,-,-,-,-,-,-,-,-,z19,-⟩:=row21v HB7.out.out))
    have HB8:=Ak (HB7.out.upd (P':=⟨p5,⟨none,0,none,0,none,0⟩,none,0,fun _=>default⟩) (d':=⟨3,nm,vv,t5,noT,q7,[]⟩) (chg_set w7 gO 19 (.int .i64 q7)) (blk_put HB7.out.out 19 _ rfl) ⟨HB7.out.mem.ty,HB7.out.mem.val,HB7.out.mem.len,HSZ.out,fun i c h=>by simp at h⟩)
    have HM8:=Ak (HM7.out.chg (S:=fun k=>k=gO) (fun k e=>by have:=HB7.out.far;have:=HB7.out.glt;omega) (chg_set w7 gO 19 (.int .i64 q7)))
    obtain ⟨W8,hW8⟩:∃ W8,W8=w7.setCell ⟨gO,19,none⟩ (.int .i64 q7):=⟨_,rfl⟩
    rw [← hW8] at HB8 HM8 ⊢
    have HSO8:=Ak (show gO<W8.heap.size by rw [hW8,World.size_setCell];exact Nat.lt_of_lt_of_le HSO.out HZ7.out)
    clear hW8 b19 z19
    go_wp2_with (go_at_call 90;go_must (refine (list_any g _ _ HM8.out).mono ?_;rintro e w9 ⟨V9,l9,rfl,hl9,hc9,hm9,hv9⟩;have HB9:=Ak (HB8.out.reader hc9);have HM9:=Ak hm9;have HV9:=Ak hv9;obtain ⟨C9,e9,q9,rfl,hle,hct⟩:=rowCt_dc hl9;have HCT:=Ak hct;have HLE:=Ak hle;clear hl9 hc9 hm9 hv9 hct hle;obtain ⟨⟨-,-,-,-,-,-,-,-,-,b20⟩,-,-,-,-,-,-,-,-,-,z20⟩:=row21v HB9.out.out))
    go_meet
    case rel =>
     have hf:=HB9.out.far
     have hg:=HB9.out.glt
     have ho:=HSO8.out
     have ha:=aft_ind (nm:=nm) (v:=vv) (t:=t5) (R:=R4 s) HV7.out HV9.out
     refine ⟨⟨p5,⟨none,0,none,0,none,0⟩,C9,e9,q9⟩,⟨3,nm,vv,t5,noT,q7,l9⟩,⟨HB9.out.upd (chg_set _ _ _ _) (blk_put HB9.out.out 20 _ rfl) ⟨HB9.out.mem.ty,HB9.out.mem.val,HLE.out,HSZ.out,fun i c h=>?_⟩⟩,⟨?_⟩,⟨?_⟩⟩
     ·obtain ⟨h1,h2,h3⟩:=HCT.out i c h
      exact ⟨h1.mono fun k hk _=>⟨by omega,by omega⟩,h2.mono fun k hk _=>⟨by omega,by omega⟩,h3⟩
     ·rw [HCH.out,ha.1];exact HM9.out.chg (S:=fun k=>k=gO) (fun k e=>by omega) (chg_set _ _ _ _)
     ·rw [HCH.out];exact ha.2
   ·have hk3:(k == 3)=false:=by simp [k3]
    have ha:=aft_ax (nm:=nm) (v:=vv) (t:=t5) (R:=R4 s) k2 k3
    have HA:=Ak ha
    clear ha k2 k3
    go_wp2
    go_meet
    case rel=>exact ⟨_,_,HB6,⟨by rw [HCH.out,HA.out.1];exact HM6.out⟩,⟨by rw [HCH.out];exact HA.out.2⟩⟩
 case rest =>
  obtain ⟨P,d,HB8,HM8,HV8⟩:=hcut
  go_wp2_with (first
   | (refine wpList_load_row rfl 30 _ rfl gO rfl 30 _ (0,0) _ HB8.out.out Try.underlying30 rfl (by kernel_rfl) ?_)
   | (refine wpList_store_row rfl 30 _ _ rfl w.heap.size #[.int .i64 d.kind,.string d.nm,.int .i64 d.vars,.int .i64 d.ty.kind,.int .i64 d.ty.num,.string d.ty.name,.int .i64 d.ty.lv.kind,.int .i64 d.ty.lv.num,.slice P.pt.A d.ty.lv.kids.length P.pt.c,.slice P.pt.B d.ty.ls.length P.pt.d,.slice P.pt.K d.ty.kids.length P.pt.e,.int .i64 d.val.kind,.int .i64 d.val.num,.string d.val.name,.int .i64 d.val.lv.kind,.int .i64 d.val.lv.num,.slice P.pv.A d.val.lv.kids.length P.pv.c,.slice P.pv.B d.val.ls.length P.pv.d,.slice P.pv.K d.val.kids.length P.pv.e,.int .i64 d.params,.slice P.C d.cs.length P.e] rfl rfl 30 #[.int .i64 0,.string ⟨#[]⟩,.int .i64 0,.int .i64 0,.int .i64 0,.string ⟨#[]⟩,.int .i64 0,.int .i64 0,.slice none 0 0,.slice none 0 0,.slice none 0 0,.int .i64 0,.int .i64 0,.string ⟨#[]⟩,.int .i64 0,.int .i64 0,.slice none 0 0,.slice none 0 0,.slice none 0 0,.int .i64 0,.slice none 0 0] HB8.out.res (by kernel_rfl) rfl (all_one (l:=[.int .i64 d.kind,.string d.nm,.int .i64 d.vars,.int .i64 d.ty.kind,.int .i64 d.ty.num,.string d.ty.name,.int .i64 d.ty.lv.kind,.int .i64 d.ty.lv.num,.slice P.pt.A d.ty.lv.kids.length P.pt.c,.slice P.pt.B d.ty.ls.length P.pt.d,.slice P.pt.K d.ty.kids.length P.pt.e,.int .i64 d.val.kind,.int .i64 d.val.num,.string d.val.name,.int .i64 d.val.lv.kind,.int .i64 d.val.lv.num,.slice P.pv.A d.val.lv.kids.length P.pv.c,.slice P.pv.B d.val.ls.length P.pv.d,.slice P.pv.K d.val.kids.length P.pv.e,.int .i64 d.params,.slice P.C d.cs.length P.e]) rfl) ?_))
  refine bodyPost_ret (results_c rfl _ _ w.heap.size 30 #[.int .i64 d.kind,.string d.nm,.int .i64 d.vars,.int .i64 d.ty.kind,.int .i64 d.ty.num,.string d.ty.name,.int .i64 d.ty.lv.kind,.int .i64 d.ty.lv.num,.slice P.pt.A d.ty.lv.kids.length P.pt.c,.slice P.pt.B d.ty.ls.length P.pt.d,.slice P.pt.K d.ty.kids.length P.pt.e,.int .i64 d.val.kind,.int .i64 d.val.num,.string d.val.name,.int .i64 d.val.lv.kind,.int .i64 d.val.lv.num,.slice P.pv.A d.val.lv.kids.length P.pv.c,.slice P.pv.B d.val.ls.length P.pv.d,.slice P.pv.K d.val.kids.length P.pv.e,.int .i64 d.params,.slice P.C d.cs.length P.e] (0,0) _ rfl (setRow_heap wc w.heap.size _ _ _ _ HB8.out.res) Try.underlying30 rfl (by kernel_rfl)) rfl ?_
  exact dc_fin HB8.out HM8.out HV8.out
end Go.Proofs.Ytcgkeolgflphiaa
