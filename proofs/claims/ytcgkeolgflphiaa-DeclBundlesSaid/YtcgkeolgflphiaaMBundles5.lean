/-
  Merged: CntW, EqK, TeR, TeW, DeR, DeW, FinA, DeP, RrX, DbR2, LawDU, Dlt, LawDB, LvIn, LvsIn, TmIn, DcsIn, WSized.
-/
import Derived.Deep.Slices
import Derived.ChangeArms
import Derived.SizedLaws
import Derived.ChangeSlices
import Derived.Test.YtcgkeolgflphiaaMBundles4
set_option linter.unusedVariables false
set_option linter.unusedSimpArgs false
namespace Go.Proofs.Ytcgkeolgflphiaa
open Go.RowKit Go.Proofs.YtcgkeolgflphiaaW.PrintWords Go.RegionInvYtcgkeolgflphiaa

theorem below_drewN {B:Nat} {w w':World} (h:Below B w w') (n:Nat):Below B w (w'.drewN n):=⟨h.os,h.tape,h.output,h.size,h.block⟩
set_option maxHeartbeats 4000000 in
theorem refleaf_calls (t:Tm) (p:Pl) (w:World) (hl:t.kids.length≤9223372036854775807):Calls Try.prog 66 #[tmV p t] w fun e w'=>e=.returned (.bool (leafR t))∧Below w.heap.size w w':=by
 obtain ⟨W,hW⟩:∃ W,W=w.alloc (tmO p t):=⟨_,rfl⟩
 have hb:Below w.heap.size w W:=by rw [hW];exact below_alloc (Below.refl _ _) _
 have HX:=Ak (show W.heap[w.heap.size]?=some (tmO p t) by rw [hW];exact blk_new _ _)
 have HB:=Ak hb
 clear hb
 unfold tmV
 unfold tmO at hW
 obtain ⟨tk,htk⟩:∃ x,t.kind=x:=⟨_,rfl⟩
 obtain ⟨L,hL⟩:∃ x,t.kids.length=x:=⟨_,rfl⟩
 obtain ⟨c0,c1,c2,c3,c4,c5,c6,c7⟩:=row8 HX.out
 rw [htk] at hW c0 ⊢
 rw [hL] at hW c7 hl ⊢
 obtain ⟨ar,har⟩:∃ x,x=arZ tk:=⟨_,rfl⟩
 have HR:=Ak (show leafR t=decide (ar<0∨(L:Int)<ar) by unfold leafR;rw [htk,hL,har])
 have HAC:=Ak (show ∀ w,Calls Try.prog 67 #[.int .i64 tk] w fun e w'=>e=.returned (.int .i64 ar)∧w'=w from fun w=>by rw [har];exact refkids_calls _ _)
 clear htk hL har c1 c2 c3 c4 c5 c6
 go_enter Try.func66,Try.ntmps66
 go_upto_region 1 with (fail)
 rw [← hW]
 clear hW
 by_cases ha:ar<0
 ·have ha':decide (ar<0)=true:=by simp [ha]
  have HZ:=Ak (show leafR t=true by rw [HR.out];exact decide_eq_true (.inl ha))
  go_quiet ((go_at_call 67;exact Calls.quiet_of_same (HAC.out _)))
  go_wp2
  go_ret
  rw [HZ.out]
  exact ⟨rfl,below_drewN HB.out _⟩
 ·have ha':decide (ar<0)=false:=by simp;omega
  have HZ:=Ak (show leafR t=decide ((L:Int)<ar) by rw [HR.out];exact decide_eq_decide.2 ⟨fun h=>h.resolve_left ha,.inr⟩)
  go_quiet ((go_at_call 67;exact Calls.quiet_of_same (HAC.out _)))
  go_wp2
  go_ret
  rw [HZ.out]
  exact ⟨rfl,below_drewN HB.out _⟩
def CntPost (g:Nat) (w:World) (r:Bool × Int) (e:Ending) (w':World):Prop:=e=.returned (.bool r.1)∧NumAt w' g r.2∧Chg (fun k=>k=g) w w'
theorem leafAt (t:Tm) (p:Pl) (w W:World) (B:Nat) (v:Value) (hv:v=tmV p t) (hl:t.kids.length≤9223372036854775807) :
  Calls Try.prog 66 #[v] w fun e w'=>e=.returned (.bool (leafR t))∧Below w.heap.size w w':=hv ▸ refleaf_calls t p w hl
set_option maxRecDepth 100000 in
set_option maxHeartbeats 16000000 in
theorem refcount_calls (N:Nat):∀ (t:Tm),SizeOf.sizeOf t<N→∀ (p:Pl) (d n:Int) (g B:Nat) (w:World),TmIn w B p t→NumAt w g n→B≤g→0≤n→n≤20000→0≤d→d≤2001 →
  Calls Try.prog 65 #[tmV p t,.int .i64 d,.pointer (some ⟨g,0,none⟩)] w (CntPost g w (cntP t d n)):=by
 induction N with
 | zero=>intro t h;omega
 | succ N ih =>
  intro t hN p d n g B w hin hg hBg hn0 hn1 hd0 hd1
  have IH:=Ak ih
  have HNN:=Ak hN
  obtain ⟨W,hW⟩:∃ W,W=(w.setCell ⟨g,0,none⟩ (.int .i64 (n+1))).alloc (tmO p t):=⟨_,rfl⟩
  have hz1:=blk_lt hg
  have cs:=chg_set w g 0 (.int .i64 (n+1))
  have hch:Chg (fun k=>k=g) w W:=by rw [hW];exact chg_trans cs (chg_alloc _ _ _)
  have HCH:=Ak hch
  have K1:=Ak (show NumAt W g (n+1) by rw [hW];exact (hg.set _).alloc _)
  have HX:=Ak (show W.heap[w.heap.size]?=some (tmO p t) by rw [hW];have:=blk_new (w.setCell ⟨g,0,none⟩ (.int .i64 (n+1))) (tmO p t);simpa [World.setCell] using this)
  have hgz:=hg.cell
  have hfz:=blk_frozen hg 0
  have HIN:=Ak (hin.stay (hch.below (fun k e=>by omega) (by omega)))
  have hlen:=hin.len
  have HKEEP:=Ak (show ∀ (wr:World),Chg (fun k=>k=g) w wr→∀ j,j<B→wr.heap[j]?=W.heap[j]? from fun wr hc j hj=>((hc.block j (by omega) (by omega)).trans (hch.block j (by omega) (by omega)).symm))
  have hbd:=cnt_bd _ t (Nat.lt_succ_self _) d n hn1
  have HBD:=Ak hbd
  have HGZ:=Ak (show w.heap.size+1≤W.heap.size by rw [hW];simp [World.setCell])
  clear ih hN hin hg cs hch hbd
  obtain ⟨pA,pc,pB,pd,pK,pe⟩:=p
  dsimp only at hlen
  unfold tmV
  unfold tmO at hW
  dsimp only
  obtain ⟨c0,c1,c2,c3,c4,c5,c6,c7⟩:=row8 HX.out
  dsimp only at c5 c6 c7
  clear c1 c2 c3 c4 c5 c6
  obtain ⟨tk,htk⟩:∃ x,t.kind=x:=⟨_,rfl⟩
  obtain ⟨L,hL⟩:∃ x,t.kids.length=x:=⟨_,rfl⟩
  rw [htk] at hW c0 ⊢
  rw [hL] at hW c7 hlen ⊢
  have HTK:=Ak htk
  have HL:=Ak hL
  have hL9:L≤9223372036854775807:=by omega
  have HLEAF:=Ak (show ∀ w,Calls Try.prog 66 #[.agg #[.int .i64 tk,.int .i64 t.num,.string t.name,.int .i64 t.lv.kind,.int .i64 t.lv.num,.slice pA t.lv.kids.length pc,.slice pB t.ls.length pd,.slice pK L pe]] w fun e w'=>e=.returned (.bool (leafR t))∧Below w.heap.size w w' from fun w=>leafAt t ⟨pA,pc,pB,pd,pK,pe⟩ w w 0 _ (by rw [← htk,← hL];rfl) (by omega))
  have HX':=Ak (show W.heap[w.heap.size]?=some (.cells #[.int .i64 tk,.int .i64 t.num,.string t.name,.int .i64 t.lv.kind,.int .i64 t.lv.num,.slice pA t.lv.kids.length pc,.slice pB t.ls.length pd,.slice pK L pe] 27 (0,0)) by rw [← htk,← hL];exact HX.out)
  clear htk hL HX
  go_enter Try.func65,Try.ntmps65
  go_upto_region 2 with (fail)
  rw [← hW]
  clear hW
  by_cases q:2000<d
  ·have HE:=Ak (cnt_deep (t:=t) (n:=n) q)
   go_wp2
   go_ret
   rw [HE.out]
   exact ⟨rfl,K1.out,HCH.out⟩
  ·have Q:=Ak q
   have q1:d≤2000:=by omega
   clear q
   cases hlf:leafR t with
   | true =>
    have HLF:=Ak hlf
    have HE:=Ak (cnt_leaf (n:=n) Q.out hlf)
    clear hlf
    go_wp2_with (first
     | (refine wpList_load_row rfl 27 _ rfl w.heap.size rfl 27 _ (0,0) _ HX'.out Try.underlying27 rfl (by kernel_rfl) ?_)
     | (go_at_call 66;go_must (refine (HLEAF.out _).mono ?_;rintro e w2 ⟨rfl,hb⟩;rw [HLF.out];have HB2:=Ak hb;clear hb)))
    go_ret
    rw [HE.out]
    exact ⟨rfl,NumAt.below K1.out HB2.out,chg_trans HCH.out (Chg.of_below HB2.out)⟩
   | false =>
    have HLF:=Ak hlf
    have HE:=Ak (cnt_go (n:=n) Q.out hlf)
    obtain ⟨hk1,hk2,hk3⟩:=nK_eq hlf
    obtain ⟨ar,har⟩:∃ x,nK t=x:=⟨_,rfl⟩
    have HNK:=Ak har
    have HAC:=Ak (show ∀ w,Calls Try.prog 67 #[.int .i64 tk] w fun e w'=>e=.returned (.int .i64 (ar:Int))∧w'=w from fun w=>by rw [← har,hk1,HTK.out];exact refkids_calls _ _)
    have har3:ar≤3:=by rw [← har];exact nK_le3 t
    have harL:ar≤L:=by rw [← har,← HL.out];exact nK_le t
    have hare:ar≤pe:=by omega
    have hareI:(ar:Int)≤pe:=by omega
    clear hlf hk1 hk2 hk3 har
    go_upto_region 6 with (first
     | (refine wpList_load_row rfl 27 _ rfl w.heap.size rfl 27 _ (0,0) _ HX'.out Try.underlying27 rfl (by kernel_rfl) ?_)
     | (go_at_call 66;go_must (refine (HLEAF.out _).mono ?_;rintro e w2 ⟨rfl,hb⟩;rw [HLF.out];have HB2:=Ak hb;have HX2:=Ak ((hb.block _ (blk_lt HX'.out)).trans HX'.out);clear hb)))
    clear c0 c7
    have c0:w2.cell? ⟨w.heap.size,0,none⟩=some (.int .i64 tk):=by rw [cell_of_row _ _ _ _ _ _ HX2.out];rfl
    have c7:w2.cell? ⟨w.heap.size,7,none⟩=some (.slice pK L pe):=by rw [cell_of_row _ _ _ _ _ _ HX2.out];rfl
    go_quiet ((go_at_call 67;exact Calls.quiet_of_same (HAC.out _)))
    have HCW:=Ak (show Chg (fun k=>k=g) w w2 from chg_trans HCH.out (Chg.of_below HB2.out))
    have HNW:=Ak (NumAt.below K1.out HB2.out)
    clear c0 c7 K1 HCH HX' HLEAF HX2 HB2
    obtain ⟨qq,hq⟩:=HIN.out.kid
    have HQ:=Ak hq
    clear hq
    go_wp2
    go_loopw [25] (fun i wr=>∃ (k:Nat) (m:Int),i=.int .i64 k∧k≤ar∧0≤m∧m≤20001∧Aside0 (runL (kidsC t d) ((List.finRange (nK t)).drop k) m=runL (kidsC t d) (List.finRange (nK t)) (n+1))∧Aside0 (NumAt wr g m)∧Aside0 (Chg (fun k=>k=g) w wr)) (fun i _=>ar - (intOf i).toNat)
    case atStart=>exact ⟨0,n+1,rfl,Nat.zero_le _,by omega,by omega,⟨by rw [List.drop_zero]⟩,⟨HNW.out⟩,⟨chg_drewN HCW.out _⟩⟩
    case round =>
     clear HCW HNW
     obtain ⟨k,m,rfl,hk,hm0,hm1,HK,HNM,HCM⟩:=hrel
     have kc:=HNM.out.cell
     have kf:=blk_frozen HNM.out 0
     have kz:=blk_lt HNM.out
     by_cases hlt:k<ar
     ·have hkn:k<nK t:=by rw [HNK.out];exact hlt
      have hx:=kidF_get t ⟨k,hkn⟩
      have HDF:=Ak (drop_fin hkn)
      obtain ⟨x,hxe⟩:∃ x,kidF t ⟨k,hkn⟩=x:=⟨_,rfl⟩
      have HXL:=Ak (show SizeOf.sizeOf x<SizeOf.sizeOf t by rw [← hxe];exact kidF_lt t _)
      rw [hxe] at hx
      obtain ⟨⟨bk,o,hpK,hSb,hcells⟩,hxin⟩:=HQ.out k x hx
      try dsimp only at hpK
      have hbk:∀ j v,(tmC (qq k) x)[j]?=some v→wr.cell? ⟨bk,o+k * 8+j,none⟩=some v:=fun j v hv=>(cell_same (HKEEP.out wr HCM.out bk hSb)).trans (hcells j v hv)
      have d0:=hbk 0 _ rfl
      have d1:=hbk 1 _ rfl
      have d2:=hbk 2 _ rfl
      have d3:=hbk 3 _ rfl
      have d4:=hbk 4 _ rfl
      have d5:=hbk 5 _ rfl
      have d6:=hbk 6 _ rfl
      have d7:=hbk 7 _ rfl
      rw [Nat.add_zero] at d0
      have HXIN:=Ak (show TmIn wr B (qq k) x from TmS.same hxin fun j hj _=>HKEEP.out wr HCM.out j hj)
      have hbr:B≤wr.heap.size:=by have:=HCM.out.size;omega
      have HPK:=Ak hpK
      rw [hpK]
      have HSTEP:=Ak (show runL (kidsC t d) ((List.finRange (nK t)).drop k) m=if (kidsC t d ⟨k,hkn⟩ m).1=true then runL (kidsC t d) ((List.finRange (nK t)).drop (k+1)) (kidsC t d ⟨k,hkn⟩ m).2 else (false,(kidsC t d ⟨k,hkn⟩ m).2) by rw [HDF.out,runL])
      by_cases hm:20000<m
      ·have HZ:=Ak (show cntP t d n=(false,m) by
        have h1:kidsC t d ⟨k,hkn⟩ m=(false,m):=if_pos hm
        have h2:=HSTEP.out
        rw [h1,if_neg (fun h=>by cases h)] at h2
        rw [HE.out,← HK.out,h2];rfl)
       clear hcells hx hxin hbk hpK hkn hxe HSTEP HDF
       go_wp2
       go_ret
       rw [HZ.out]
       exact ⟨rfl,HNM.out.alloc _,chg_trans HCM.out (chg_alloc _ _ _)⟩
      ·obtain ⟨ev,m2,hev⟩:∃ ev m2,cntP x (d+1) m=(ev,m2):=⟨_,_,rfl⟩
       have HEV:=Ak hev
       have hkc:kidsC t d ⟨k,hkn⟩ m=(ev,m2):=by rw [← hev,← hxe];exact if_neg hm
       have hb2:=cnt_bd _ x (Nat.lt_succ_self _) (d+1) m (by omega)
       rw [hev] at hb2
       obtain ⟨b1,b2⟩:=hb2
       simp only at b1 b2
       have HST:=Ak (show runL (kidsC t d) ((List.finRange (nK t)).drop k) m=if ev=true then runL (kidsC t d) ((List.finRange (nK t)).drop (k+1)) m2 else (false,m2) by have h:=HSTEP.out;rw [hkc] at h;exact h)
       clear hcells hx hxin hbk hpK hkn hxe HSTEP HDF hev hkc
       cases ev with
       | true =>
        have HK2:=Ak ((HST.out.trans (if_pos rfl)).symm.trans HK.out)
        clear HST
        go_wp2_with (go_at_call 65;go_must (refine (IH.out x (by have:=HXL.out;have:=HNN.out;omega) (qq k) (d+1) m g B _ (TmIn.stay HXIN.out ((Below.refl _ _).alloc (by omega) _)) (HNM.out.alloc _) (by omega) hm0 (by omega) (by omega) (by omega)).mono ?_;rintro e w3 ⟨rfl,hg1,hc1⟩;rw [HEV.out] at hg1 ⊢;have HG2:=Ak hg1;have HC3:=Ak (chg_trans HCM.out (chg_trans (chg_alloc _ _ _) hc1));clear hg1 hc1))
        go_roundw
        case rel=>exact ⟨k+1,m2,by go_num,by omega,by omega,by omega,HK2,HG2,HC3⟩
        case measure=>(simp [intOf];try omega)
       | false =>
        have HZ:=Ak (show cntP t d n=(false,m2) by rw [HE.out,← HK.out,HST.out,if_neg (by decide)];rfl)
        clear HST
        go_wp2_with (go_at_call 65;go_must (refine (IH.out x (by have:=HXL.out;have:=HNN.out;omega) (qq k) (d+1) m g B _ (TmIn.stay HXIN.out ((Below.refl _ _).alloc (by omega) _)) (HNM.out.alloc _) (by omega) hm0 (by omega) (by omega) (by omega)).mono ?_;rintro e w3 ⟨rfl,hg1,hc1⟩;rw [HEV.out] at hg1 ⊢;have HG2:=Ak hg1;have HC3:=Ak (chg_trans HCM.out (chg_trans (chg_alloc _ _ _) hc1));clear hg1 hc1))
        go_ret
        rw [HZ.out]
        exact ⟨rfl,HG2.out,HC3.out⟩
     ·obtain rfl:k=ar:=by omega
      have hlt':decide ((k:Int)<k)=false:=by simp
      have HZ:=Ak (show cntP t d n=(decide (m≤20000),m) by rw [HE.out,← HK.out,List.drop_of_length_le (by rw [List.length_finRange,HNK.out];exact Nat.le_refl _)];rfl)
      go_wp2
      go_ret
      rw [HZ.out]
      exact ⟨rfl,HNM.out,HCM.out⟩
set_option maxHeartbeats 4000000 in
theorem tooGreat_calls (t:Tm) (p:Pl) (w:World) (hin:TmIn w w.heap.size p t):Calls Try.prog 39 #[tmV p t] w fun e w'=>e=.returned (.bool (!decide (okT t)))∧Below w.heap.size w w':=by
 have HIN:=Ak hin
 obtain ⟨W,hW⟩:∃ W,W=(w.alloc (tmO p t)).alloc (.cells #[.int .i64 0] 3 (0,0)):=⟨_,rfl⟩
 have hb:Below w.heap.size w W:=by rw [hW];exact below_alloc (below_alloc (Below.refl _ _) _) _
 have HX:=Ak (show W.heap[w.heap.size]?=some (tmO p t) by rw [hW];exact blk_alloc (blk_new _ _) _)
 have HN1:=Ak (show NumAt W (w.heap.size+1) 0 by rw [hW];have:=blk_new (w.alloc (tmO p t)) (.cells #[.int .i64 0] 3 (0,0));simp only [World.size_alloc] at this;exact this)
 have HB:=Ak hb
 have HV:=Ak (great_ok t)
 clear hin hb
 unfold tmV
 unfold tmO at hW
 go_enter Try.func39,Try.ntmps39
 go_upto_region 2 with (fail)
 rw [← hW]
 clear hW
 go_wp2_with (first
  | (refine wpList_load_row rfl 27 _ rfl w.heap.size rfl 27 _ (0,0) _ HX.out Try.underlying27 rfl (by kernel_rfl) ?_)
  | (go_at_call 65;go_must (refine (refcount_calls _ t (Nat.lt_succ_self _) p 1 0 (w.heap.size+1) w.heap.size W (HIN.out.stay HB.out) HN1.out (by omega) (by decide) (by decide) (by decide) (by decide)).mono ?_;rintro e w2 ⟨rfl,-,hC⟩;rw [HV.out];have HB2:=Ak (Chg.trans_below HB.out hC (fun k h=>by omega) HB.out.size);clear hC)))
 go_ret
 exact ⟨rfl,HB2.out⟩
end Go.Proofs.Ytcgkeolgflphiaa

namespace Go.Proofs.Ytcgkeolgflphiaa
open Go.RowKit Go.Proofs.YtcgkeolgflphiaaW.PrintWords Go.RegionInvYtcgkeolgflphiaa

mutual
theorem sim_self:(l:Lv)→simB l l=true
 | .mk k n ks=>by exact (sim_ok (k:=k) (n:=n) (ks:=ks) (l:=.mk k n ks) ⟨rfl,.inr rfl,rfl⟩).trans (simKs_self ks)
theorem simKs_self:(ks:List Lv)→simKs ks ks=true
 | []=>by rw [simKs_nil]
 | x :: r=>by rw [simKs_cons,sim_self x,simKs_self r];rfl
end
mutual
theorem sz_nL:(l:Lv)→sz l=nL l
 | .mk k n ks=>by rw [sz_mk,nL_mk,szs_nLs ks]
theorem szs_nLs:(ks:List Lv)→szs ks=nLs ks
 | []=>by rw [szs_nil,nLs_nil]
 | x :: r=>by rw [szs_cons,nLs_cons,sz_nL x,szs_nLs r]
end
inductive EqOk:Tm→Prop
 | mk {t:Tm} (hl:sz t.lv≤5000) (hs:∀ x∈t.ls,sz x≤5000) (hk:∀ x∈t.kids,EqOk x):EqOk t
theorem EqOk.lv {t:Tm} (h:EqOk t):sz t.lv≤5000:=by cases h;assumption
theorem EqOk.ls {t:Tm} (h:EqOk t):∀ x∈t.ls,sz x≤5000:=by cases h;assumption
theorem EqOk.kids {t:Tm} (h:EqOk t):∀ x∈t.kids,EqOk x:=by cases h;assumption
theorem tcans_fix {ks:List Tm} (h:tcans ks=ks):∀ x∈ks,tcan x=x:=by
 rw [tcans_map] at h
 intro x hx
 obtain ⟨i,hi,rfl⟩:=List.getElem_of_mem hx
 have h1:(ks.map tcan)[i]'(by simpa using hi)=ks[i]:=by simp only [h]
 simpa using h1
theorem eqOk_of:∀ (f:Nat) {t:Tm},TmF f t→tcan t=t→EqOk t
 | 0,t,h,_=>by cases h
 | f+1,t,h,hc=>by
  cases h with
  | @mk _ k n nm lv ls ks hk h1 h2 h7 h0 ha hks =>
   rw [tcan_mk] at hc
   injection hc with e1 e2 e3 e4 e5 e6
   refine .mk ?_ ?_ fun x hx=>eqOk_of f (hks x hx) (tcans_fix e6 x hx)
   ·show sz lv≤5000
    by_cases k2:k=2
    ·have:=(h2 k2).2;rw [sz_nL];omega
    ·rw [if_neg k2] at e4;rw [← e4,sz_mk,szs_nil];omega
   ·show ∀ x∈ls,sz x≤5000
    by_cases k7:k=7
    ·intro x hx;have:=((h7 k7).2.2 x hx).2;rw [sz_nL];omega
    ·rw [if_neg k7] at e5;rw [← e5];intro x hx;cases hx
end Go.Proofs.Ytcgkeolgflphiaa

namespace Go.Proofs.Ytcgkeolgflphiaa
open Go.RowKit Go.Proofs.YtcgkeolgflphiaaW.PrintWords Go.RegionInvYtcgkeolgflphiaa Go.RegionEYtcgkeolgflphiaa
set_option linter.unusedVariables false

theorem below_undrewQ {w0 w:World} (h:Below w0.drew.heap.size w0.drew w):Below w0.heap.size w0 w:=Below.trans (below_drew (Below.refl _ _)) h

def tel_ops:List Oper:=[
 { dst:=some 58,op:=Go.Op.fieldAddr 27 (Go.Operand.tmp 2) 4,type:=0,pos:= "ref.go:416",after:=#[],guard:=none },
 { dst:=some 59,op:=Go.Op.load 22 (Go.Operand.tmp 58),type:=22,pos:= "ref.go:416",after:=#[{ on:=0,ground:=Go.Ground.data }],guard:=none },
 { dst:=some 60,op:=Go.Op.move (Go.Operand.tmp 5),type:=3,pos:= "ref.go:416",after:=#[],guard:=none },
 { dst:=some 61,op:=Go.Op.indexAddr 22 (Go.Operand.tmp 59) (Go.Operand.tmp 60),type:=0,pos:= "ref.go:416",after:=#[{ on:=1,ground:=Go.Ground.data },{ on:=2,ground:=Go.Ground.data }],guard:=none },
 { dst:=some 62,op:=Go.Op.load 24 (Go.Operand.tmp 61),type:=24,pos:= "ref.go:416",after:=#[{ on:=3,ground:=Go.Ground.data }],guard:=none },
 { dst:=some 63,op:=Go.Op.fieldAddr 27 (Go.Operand.tmp 3) 4,type:=0,pos:= "ref.go:416",after:=#[],guard:=none },
 { dst:=some 64,op:=Go.Op.load 22 (Go.Operand.tmp 63),type:=22,pos:= "ref.go:416",after:=#[{ on:=5,ground:=Go.Ground.data }],guard:=none },
 { dst:=some 65,op:=Go.Op.move (Go.Operand.tmp 5),type:=3,pos:= "ref.go:416",after:=#[],guard:=none },
 { dst:=some 66,op:=Go.Op.indexAddr 22 (Go.Operand.tmp 64) (Go.Operand.tmp 65),type:=0,pos:= "ref.go:416",after:=#[{ on:=6,ground:=Go.Ground.data },{ on:=7,ground:=Go.Ground.data }],guard:=none },
 { dst:=some 67,op:=Go.Op.load 24 (Go.Operand.tmp 66),type:=24,pos:= "ref.go:416",after:=#[{ on:=8,ground:=Go.Ground.data }],guard:=none },
 { dst:=some 68,op:=Go.Op.call { callee:=Go.Callee.value (Go.Operand.func 94),args:=#[Go.Operand.tmp 62,Go.Operand.tmp 67],argTypes:=#[24,24] },type:=4,pos:= "ref.go:416",after:=#[{ on:=4,ground:=Go.Ground.data },{ on:=9,ground:=Go.Ground.data }],guard:=none },
 { dst:=some 69,op:=Go.Op.unOp Go.UnOp.not 4 (Go.Operand.tmp 68),type:=4,pos:= "ref.go:416",after:=#[{ on:=10,ground:=Go.Ground.data }],guard:=none }]
def tel_F (w0:World) (g h i:Nat) (p q:Pl) (t u:Tm) (ga oa gd od m1:Nat) (xk xn yk yn:Int) (A1 A2:Option Addr) (n1 c1 n2 c2:Nat) (r:Bool):Nat→(Nat→Value)→Value→World→(Nat→Prop)→Prop:=fun rix=>match rix with
 | 0=>fun _ v _ _=>v=.pointer (some ⟨g,6,none⟩)
 | 1=>fun _ v _ _=>v=.slice (some ⟨ga,oa,none⟩) m1 p.d
 | 2=>fun _ v _ _=>v=.int .i64 i
 | 3=>fun _ v _ _=>v=.pointer (some ⟨ga,oa+i * 3,none⟩)
 | 4=>fun _ v _ _=>v=.agg #[.int .i64 xk,.int .i64 xn,.slice A1 n1 c1]
 | 5=>fun _ v _ _=>v=.pointer (some ⟨h,6,none⟩)
 | 6=>fun _ v _ _=>v=.slice (some ⟨gd,od,none⟩) m1 q.d
 | 7=>fun _ v _ _=>v=.int .i64 i
 | 8=>fun _ v _ _=>v=.pointer (some ⟨gd,od+i * 3,none⟩)
 | 9=>fun _ v _ _=>v=.agg #[.int .i64 yk,.int .i64 yn,.slice A2 n2 c2]
 | 10=>fun _ v _ _=>v=.bool r
 | 11=>fun _ v _ _=>v=.bool (!r)
 | _=>fun _ _ _ _=>True
def tel_C:Nat→List Nat:=fun rix=>match rix with
 | _=>[]
theorem tel_nw2:nwB tel_ops.toArray 2=true:=by kernel_rfl
theorem tel_nw3:nwB tel_ops.toArray 3=true:=by kernel_rfl
theorem tel_nw5:nwB tel_ops.toArray 5=true:=by kernel_rfl
set_option maxRecDepth 100000 in
set_option maxHeartbeats 8000000 in
theorem tel_obs (w0:World) (g h i:Nat) (p q:Pl) (t u:Tm) (ga oa gd od m1:Nat) (xk xn yk yn:Int) (A1 A2:Option Addr) (n1 c1 n2 c2:Nat) (r:Bool) (hx2:w0.heap[g]?=some (tmO p t)) (hx3:w0.heap[h]?=some (tmO q u)) (hpB:p.B=some ⟨ga,oa,none⟩) (hqB:q.B=some ⟨gd,od,none⟩) (hm1:t.ls.length=m1) (hm2:u.ls.length=m1) (hga:ga<w0.heap.size) (hgd:gd<w0.heap.size) (him:i<m1) (hm9:m1≤9223372036854775807) (ca0:w0.cell? ⟨ga,oa+i * 3,none⟩=some (.int .i64 xk)) (ca1:w0.cell? ⟨ga,oa+i * 3+1,none⟩=some (.int .i64 xn)) (ca2:w0.cell? ⟨ga,oa+i * 3+2,none⟩=some (.slice A1 n1 c1)) (cb0:w0.cell? ⟨gd,od+i * 3,none⟩=some (.int .i64 yk)) (cb1:w0.cell? ⟨gd,od+i * 3+1,none⟩=some (.int .i64 yn)) (cb2:w0.cell? ⟨gd,od+i * 3+2,none⟩=some (.slice A2 n2 c2)) (hEQ:∀ w,Below w0.heap.size w0 w→Calls Try.prog 94 #[.agg #[.int .i64 xk,.int .i64 xn,.slice A1 n1 c1],.agg #[.int .i64 yk,.int .i64 yn,.slice A2 n2 c2]] w fun e w'=>e=.returned (.bool r)∧Below w.heap.size w w') (Q:Exit→Act→World→Prop) (a0:Act) (hi2:a0.tmps.getD 2 undef=.pointer (some ⟨g,0,none⟩)) (hi3:a0.tmps.getD 3 undef=.pointer (some ⟨h,0,none⟩)) (hi5:a0.tmps.getD 5 undef=.int .i64 i) :
  ObsE Try.prog tel_ops.toArray Q (est2 0 0 (fun _=>False) (fun _=>False)) tel_C (tel_F w0 g h i p q t u ga oa gd od m1 xk xn yk yn A1 A2 n1 c1 n2 c2 r) a0 w0 tel_ops.toArray.toList 0:=by
 have nw2:=tel_nw2
 have nw3:=tel_nw3
 have nw5:=tel_nw5
 refine ⟨?_,?_,?_,?_,?_,?_,?_,?_,?_,?_,?_,?_,trivial⟩
 ·refine ⟨⟨fun τ=>stableE_det _,leans_not⟩,?_⟩
  intro a w O hk
  have e2:a.eval (.tmp 2)=.pointer (some ⟨g,0,none⟩):=(hk.init 2 (initialB_of_nw nw2)).trans hi2
  have x2:=hk.world.still hx2 (fun ⟨_,h⟩=>h.elim And.right And.right)
  have x3:=hk.world.still hx3 (fun ⟨_,h⟩=>h.elim And.right And.right)
  have hcc:∀ j,w.cell? ⟨ga,j,none⟩=w0.cell? ⟨ga,j,none⟩:=fun j=>cell_same ((hk.world.below (fun k ⟨_,h⟩=>h.elim (fun h=>h.2.elim) fun h=>h.2.elim) (Nat.le_refl _)).block _ hga)
  have hcd:∀ j,w.cell? ⟨gd,j,none⟩=w0.cell? ⟨gd,j,none⟩:=fun j=>cell_same ((hk.world.below (fun k ⟨_,h⟩=>h.elim (fun h=>h.2.elim) fun h=>h.2.elim) (Nat.le_refl _)).block _ hgd)
  have hbl:Below w0.heap.size w0 w:=(hk.world.below (fun k ⟨_,h⟩=>h.elim (fun h=>h.2.elim) fun h=>h.2.elim) (Nat.le_refl _))
  exact obE_run (wanted_none rfl) (by unfold execOp;simp only [];rw [e2];go_simp) rfl
 ·refine ⟨⟨fun τ=>stableE_det _,leans_not⟩,?_⟩
  intro a w O hk
  have e58:a.eval (.tmp 58)=.pointer (some ⟨g,6,none⟩):=hk.fact 0 _ 58 rfl rfl rfl rfl
  have x2:=hk.world.still hx2 (fun ⟨_,h⟩=>h.elim And.right And.right)
  have x3:=hk.world.still hx3 (fun ⟨_,h⟩=>h.elim And.right And.right)
  have hcc:∀ j,w.cell? ⟨ga,j,none⟩=w0.cell? ⟨ga,j,none⟩:=fun j=>cell_same ((hk.world.below (fun k ⟨_,h⟩=>h.elim (fun h=>h.2.elim) fun h=>h.2.elim) (Nat.le_refl _)).block _ hga)
  have hcd:∀ j,w.cell? ⟨gd,j,none⟩=w0.cell? ⟨gd,j,none⟩:=fun j=>cell_same ((hk.world.below (fun k ⟨_,h⟩=>h.elim (fun h=>h.2.elim) fun h=>h.2.elim) (Nat.le_refl _)).block _ hgd)
  have hbl:Below w0.heap.size w0 w:=(hk.world.below (fun k ⟨_,h⟩=>h.elim (fun h=>h.2.elim) fun h=>h.2.elim) (Nat.le_refl _))
  obtain ⟨p0,p1,p2,p3,p4,p5,p6,p7⟩:=row8 x2
  rw [hpB,hm1] at p6
  exact obE_run (wanted_none rfl) (by unfold execOp;simp only [];rw [e58];go_simp) rfl
 ·refine ⟨⟨fun τ=>stableE_det _,leans_not⟩,?_⟩
  intro a w O hk
  have e5:a.eval (.tmp 5)=.int .i64 i:=(hk.init 5 (initialB_of_nw nw5)).trans hi5
  exact toE (ob_move rfl e5 (wanted_none rfl) rfl)
 ·refine ⟨⟨fun τ=>stableE_det _,leans_not⟩,?_⟩
  intro a w O hk
  have e59:a.eval (.tmp 59)=.slice (some ⟨ga,oa,none⟩) m1 p.d:=hk.fact 1 _ 59 rfl rfl rfl rfl
  have e60:a.eval (.tmp 60)=.int .i64 i:=hk.fact 2 _ 60 rfl rfl rfl rfl
  have x2:=hk.world.still hx2 (fun ⟨_,h⟩=>h.elim And.right And.right)
  have x3:=hk.world.still hx3 (fun ⟨_,h⟩=>h.elim And.right And.right)
  have hcc:∀ j,w.cell? ⟨ga,j,none⟩=w0.cell? ⟨ga,j,none⟩:=fun j=>cell_same ((hk.world.below (fun k ⟨_,h⟩=>h.elim (fun h=>h.2.elim) fun h=>h.2.elim) (Nat.le_refl _)).block _ hga)
  have hcd:∀ j,w.cell? ⟨gd,j,none⟩=w0.cell? ⟨gd,j,none⟩:=fun j=>cell_same ((hk.world.below (fun k ⟨_,h⟩=>h.elim (fun h=>h.2.elim) fun h=>h.2.elim) (Nat.le_refl _)).block _ hgd)
  have hbl:Below w0.heap.size w0 w:=(hk.world.below (fun k ⟨_,h⟩=>h.elim (fun h=>h.2.elim) fun h=>h.2.elim) (Nat.le_refl _))
  exact obE_run (wanted_none rfl) (by unfold execOp;simp only [];rw [e59,e60];go_simp) rfl
 ·refine ⟨⟨fun τ=>stableE_det _,leans_not⟩,?_⟩
  intro a w O hk
  have e61:a.eval (.tmp 61)=.pointer (some ⟨ga,oa+i * 3,none⟩):=hk.fact 3 _ 61 rfl rfl rfl rfl
  have x2:=hk.world.still hx2 (fun ⟨_,h⟩=>h.elim And.right And.right)
  have x3:=hk.world.still hx3 (fun ⟨_,h⟩=>h.elim And.right And.right)
  have hcc:∀ j,w.cell? ⟨ga,j,none⟩=w0.cell? ⟨ga,j,none⟩:=fun j=>cell_same ((hk.world.below (fun k ⟨_,h⟩=>h.elim (fun h=>h.2.elim) fun h=>h.2.elim) (Nat.le_refl _)).block _ hga)
  have hcd:∀ j,w.cell? ⟨gd,j,none⟩=w0.cell? ⟨gd,j,none⟩:=fun j=>cell_same ((hk.world.below (fun k ⟨_,h⟩=>h.elim (fun h=>h.2.elim) fun h=>h.2.elim) (Nat.le_refl _)).block _ hgd)
  have hbl:Below w0.heap.size w0 w:=(hk.world.below (fun k ⟨_,h⟩=>h.elim (fun h=>h.2.elim) fun h=>h.2.elim) (Nat.le_refl _))
  have r0:=(hcc _).trans ca0
  have r1:=(hcc _).trans ca1
  have r2:=(hcc _).trans ca2
  exact obE_run (wanted_none rfl) (by unfold execOp;simp only [];rw [e61];go_simp) rfl
 ·refine ⟨⟨fun τ=>stableE_det _,leans_not⟩,?_⟩
  intro a w O hk
  have e3:a.eval (.tmp 3)=.pointer (some ⟨h,0,none⟩):=(hk.init 3 (initialB_of_nw nw3)).trans hi3
  have x2:=hk.world.still hx2 (fun ⟨_,h⟩=>h.elim And.right And.right)
  have x3:=hk.world.still hx3 (fun ⟨_,h⟩=>h.elim And.right And.right)
  have hcc:∀ j,w.cell? ⟨ga,j,none⟩=w0.cell? ⟨ga,j,none⟩:=fun j=>cell_same ((hk.world.below (fun k ⟨_,h⟩=>h.elim (fun h=>h.2.elim) fun h=>h.2.elim) (Nat.le_refl _)).block _ hga)
  have hcd:∀ j,w.cell? ⟨gd,j,none⟩=w0.cell? ⟨gd,j,none⟩:=fun j=>cell_same ((hk.world.below (fun k ⟨_,h⟩=>h.elim (fun h=>h.2.elim) fun h=>h.2.elim) (Nat.le_refl _)).block _ hgd)
  have hbl:Below w0.heap.size w0 w:=(hk.world.below (fun k ⟨_,h⟩=>h.elim (fun h=>h.2.elim) fun h=>h.2.elim) (Nat.le_refl _))
  exact obE_run (wanted_none rfl) (by unfold execOp;simp only [];rw [e3];go_simp) rfl
 ·refine ⟨⟨fun τ=>stableE_det _,leans_not⟩,?_⟩
  intro a w O hk
  have e63:a.eval (.tmp 63)=.pointer (some ⟨h,6,none⟩):=hk.fact 5 _ 63 rfl rfl rfl rfl
  have x2:=hk.world.still hx2 (fun ⟨_,h⟩=>h.elim And.right And.right)
  have x3:=hk.world.still hx3 (fun ⟨_,h⟩=>h.elim And.right And.right)
  have hcc:∀ j,w.cell? ⟨ga,j,none⟩=w0.cell? ⟨ga,j,none⟩:=fun j=>cell_same ((hk.world.below (fun k ⟨_,h⟩=>h.elim (fun h=>h.2.elim) fun h=>h.2.elim) (Nat.le_refl _)).block _ hga)
  have hcd:∀ j,w.cell? ⟨gd,j,none⟩=w0.cell? ⟨gd,j,none⟩:=fun j=>cell_same ((hk.world.below (fun k ⟨_,h⟩=>h.elim (fun h=>h.2.elim) fun h=>h.2.elim) (Nat.le_refl _)).block _ hgd)
  have hbl:Below w0.heap.size w0 w:=(hk.world.below (fun k ⟨_,h⟩=>h.elim (fun h=>h.2.elim) fun h=>h.2.elim) (Nat.le_refl _))
  obtain ⟨p0,p1,p2,p3,p4,p5,p6,p7⟩:=row8 x3
  rw [hqB,hm2] at p6
  exact obE_run (wanted_none rfl) (by unfold execOp;simp only [];rw [e63];go_simp) rfl
 ·refine ⟨⟨fun τ=>stableE_det _,leans_not⟩,?_⟩
  intro a w O hk
  have e5:a.eval (.tmp 5)=.int .i64 i:=(hk.init 5 (initialB_of_nw nw5)).trans hi5
  exact toE (ob_move rfl e5 (wanted_none rfl) rfl)
 ·refine ⟨⟨fun τ=>stableE_det _,leans_not⟩,?_⟩
  intro a w O hk
  have e64:a.eval (.tmp 64)=.slice (some ⟨gd,od,none⟩) m1 q.d:=hk.fact 6 _ 64 rfl rfl rfl rfl
  have e65:a.eval (.tmp 65)=.int .i64 i:=hk.fact 7 _ 65 rfl rfl rfl rfl
  have x2:=hk.world.still hx2 (fun ⟨_,h⟩=>h.elim And.right And.right)
  have x3:=hk.world.still hx3 (fun ⟨_,h⟩=>h.elim And.right And.right)
  have hcc:∀ j,w.cell? ⟨ga,j,none⟩=w0.cell? ⟨ga,j,none⟩:=fun j=>cell_same ((hk.world.below (fun k ⟨_,h⟩=>h.elim (fun h=>h.2.elim) fun h=>h.2.elim) (Nat.le_refl _)).block _ hga)
  have hcd:∀ j,w.cell? ⟨gd,j,none⟩=w0.cell? ⟨gd,j,none⟩:=fun j=>cell_same ((hk.world.below (fun k ⟨_,h⟩=>h.elim (fun h=>h.2.elim) fun h=>h.2.elim) (Nat.le_refl _)).block _ hgd)
  have hbl:Below w0.heap.size w0 w:=(hk.world.below (fun k ⟨_,h⟩=>h.elim (fun h=>h.2.elim) fun h=>h.2.elim) (Nat.le_refl _))
  exact obE_run (wanted_none rfl) (by unfold execOp;simp only [];rw [e64,e65];go_simp) rfl
 ·refine ⟨⟨fun τ=>stableE_det _,leans_not⟩,?_⟩
  intro a w O hk
  have e66:a.eval (.tmp 66)=.pointer (some ⟨gd,od+i * 3,none⟩):=hk.fact 8 _ 66 rfl rfl rfl rfl
  have x2:=hk.world.still hx2 (fun ⟨_,h⟩=>h.elim And.right And.right)
  have x3:=hk.world.still hx3 (fun ⟨_,h⟩=>h.elim And.right And.right)
  have hcc:∀ j,w.cell? ⟨ga,j,none⟩=w0.cell? ⟨ga,j,none⟩:=fun j=>cell_same ((hk.world.below (fun k ⟨_,h⟩=>h.elim (fun h=>h.2.elim) fun h=>h.2.elim) (Nat.le_refl _)).block _ hga)
  have hcd:∀ j,w.cell? ⟨gd,j,none⟩=w0.cell? ⟨gd,j,none⟩:=fun j=>cell_same ((hk.world.below (fun k ⟨_,h⟩=>h.elim (fun h=>h.2.elim) fun h=>h.2.elim) (Nat.le_refl _)).block _ hgd)
  have hbl:Below w0.heap.size w0 w:=(hk.world.below (fun k ⟨_,h⟩=>h.elim (fun h=>h.2.elim) fun h=>h.2.elim) (Nat.le_refl _))
  have r0:=(hcd _).trans cb0
  have r1:=(hcd _).trans cb1
  have r2:=(hcd _).trans cb2
  exact obE_run (wanted_none rfl) (by unfold execOp;simp only [];rw [e66];go_simp) rfl
 ·refine ⟨⟨fun τ=>stableE_det _,leans_not⟩,?_⟩
  intro a w O hk
  have e62:a.eval (.tmp 62)=.agg #[.int .i64 xk,.int .i64 xn,.slice A1 n1 c1]:=hk.fact 4 _ 62 rfl rfl rfl rfl
  have e67:a.eval (.tmp 67)=.agg #[.int .i64 yk,.int .i64 yn,.slice A2 n2 c2]:=hk.fact 9 _ 67 rfl rfl rfl rfl
  have x2:=hk.world.still hx2 (fun ⟨_,h⟩=>h.elim And.right And.right)
  have x3:=hk.world.still hx3 (fun ⟨_,h⟩=>h.elim And.right And.right)
  have hcc:∀ j,w.cell? ⟨ga,j,none⟩=w0.cell? ⟨ga,j,none⟩:=fun j=>cell_same ((hk.world.below (fun k ⟨_,h⟩=>h.elim (fun h=>h.2.elim) fun h=>h.2.elim) (Nat.le_refl _)).block _ hga)
  have hcd:∀ j,w.cell? ⟨gd,j,none⟩=w0.cell? ⟨gd,j,none⟩:=fun j=>cell_same ((hk.world.below (fun k ⟨_,h⟩=>h.elim (fun h=>h.2.elim) fun h=>h.2.elim) (Nat.le_refl _)).block _ hgd)
  have hbl:Below w0.heap.size w0 w:=(hk.world.below (fun k ⟨_,h⟩=>h.elim (fun h=>h.2.elim) fun h=>h.2.elim) (Nat.le_refl _))
  exact obE_callV #[.agg #[.int .i64 xk,.int .i64 xn,.slice A1 n1 c1],.agg #[.int .i64 yk,.int .i64 yn,.slice A2 n2 c2]] rfl rfl rfl rfl (by simp only [List.map_cons,List.map_nil];rw [e62,e67]) (wanted_none rfl) (hEQ w hbl)
 ·refine ⟨⟨fun τ=>stableE_det _,leans_not⟩,?_⟩
  intro a w O hk
  have e68:a.eval (.tmp 68)=.bool r:=hk.fact 10 _ 68 rfl rfl rfl rfl
  have x2:=hk.world.still hx2 (fun ⟨_,h⟩=>h.elim And.right And.right)
  have x3:=hk.world.still hx3 (fun ⟨_,h⟩=>h.elim And.right And.right)
  have hcc:∀ j,w.cell? ⟨ga,j,none⟩=w0.cell? ⟨ga,j,none⟩:=fun j=>cell_same ((hk.world.below (fun k ⟨_,h⟩=>h.elim (fun h=>h.2.elim) fun h=>h.2.elim) (Nat.le_refl _)).block _ hga)
  have hcd:∀ j,w.cell? ⟨gd,j,none⟩=w0.cell? ⟨gd,j,none⟩:=fun j=>cell_same ((hk.world.below (fun k ⟨_,h⟩=>h.elim (fun h=>h.2.elim) fun h=>h.2.elim) (Nat.le_refl _)).block _ hgd)
  have hbl:Below w0.heap.size w0 w:=(hk.world.below (fun k ⟨_,h⟩=>h.elim (fun h=>h.2.elim) fun h=>h.2.elim) (Nat.le_refl _))
  exact obE_run (wanted_none rfl) (by unfold execOp;simp only [];rw [e68];go_simp) rfl
set_option maxRecDepth 100000 in
set_option maxHeartbeats 8000000 in
theorem tel_region {Q:Exit→Act→World→Prop} {id:Nat} (w0:World) (g h i:Nat) (p q:Pl) (t u:Tm) (ga oa gd od m1:Nat) (xk xn yk yn:Int) (A1 A2:Option Addr) (n1 c1 n2 c2:Nat) (r:Bool) {s0 s1 s4 s6 s7 s8 s9 s10 s11 s12 s13 s14 s15 s16 s17 s18 s19 s20 s21 s22 s23 s24 s25 s26 s27 s28 s29 s30 s31 s32 s33 s34 s35 s36 s37 s38 s39 s40 s41 s42 s43 s44 s45 s46 s47 s48 s49 s50 s51 s52 s53 s54 s55 s56 s57 s58 s59 s60 s61 s62 s63 s64 s65 s66 s67 s68 s69 s70 s71 s72 s73 s74 s75 s76 s77 s78 s79 s80 s81 s82 s83 s84 s85 s86 s87 s88 s89:Value} (hx2:w0.heap[g]?=some (tmO p t)) (hx3:w0.heap[h]?=some (tmO q u)) (hpB:p.B=some ⟨ga,oa,none⟩) (hqB:q.B=some ⟨gd,od,none⟩) (hm1:t.ls.length=m1) (hm2:u.ls.length=m1) (hga:ga<w0.heap.size) (hgd:gd<w0.heap.size) (him:i<m1) (hm9:m1≤9223372036854775807) (ca0:w0.cell? ⟨ga,oa+i * 3,none⟩=some (.int .i64 xk)) (ca1:w0.cell? ⟨ga,oa+i * 3+1,none⟩=some (.int .i64 xn)) (ca2:w0.cell? ⟨ga,oa+i * 3+2,none⟩=some (.slice A1 n1 c1)) (cb0:w0.cell? ⟨gd,od+i * 3,none⟩=some (.int .i64 yk)) (cb1:w0.cell? ⟨gd,od+i * 3+1,none⟩=some (.int .i64 yn)) (cb2:w0.cell? ⟨gd,od+i * 3+2,none⟩=some (.slice A2 n2 c2)) (hEQ:∀ w,Below w0.heap.size w0 w→Calls Try.prog 94 #[.agg #[.int .i64 xk,.int .i64 xn,.slice A1 n1 c1],.agg #[.int .i64 yk,.int .i64 yn,.slice A2 n2 c2]] w fun e w'=>e=.returned (.bool r)∧Below w.heap.size w w')
  (hend:∀ (w':World),Chg (fun k=>False∨False) w0 w'→Q .normal { tmps:=(s0 :: s1 :: (.pointer (some ⟨g,0,none⟩)) :: (.pointer (some ⟨h,0,none⟩)) :: s4 :: (.int .i64 i) :: s6 :: s7 :: s8 :: s9 :: s10 :: s11 :: s12 :: s13 :: s14 :: s15 :: s16 :: s17 :: s18 :: s19 :: s20 :: s21 :: s22 :: s23 :: s24 :: s25 :: s26 :: s27 :: s28 :: s29 :: s30 :: s31 :: s32 :: s33 :: s34 :: s35 :: s36 :: s37 :: s38 :: s39 :: s40 :: s41 :: s42 :: s43 :: s44 :: s45 :: s46 :: s47 :: s48 :: s49 :: s50 :: s51 :: s52 :: s53 :: s54 :: s55 :: s56 :: s57 :: (.pointer (some ⟨g,6,none⟩)) :: (.slice (some ⟨ga,oa,none⟩) m1 p.d) :: (.int .i64 i) :: (.pointer (some ⟨ga,oa+i * 3,none⟩)) :: (.agg #[.int .i64 xk,.int .i64 xn,.slice A1 n1 c1]) :: (.pointer (some ⟨h,6,none⟩)) :: (.slice (some ⟨gd,od,none⟩) m1 q.d) :: (.int .i64 i) :: (.pointer (some ⟨gd,od+i * 3,none⟩)) :: (.agg #[.int .i64 yk,.int .i64 yn,.slice A2 n2 c2]) :: (.bool r) :: (.bool (!r)) :: s70 :: s71 :: s72 :: s73 :: s74 :: s75 :: s76 :: s77 :: s78 :: s79 :: s80 :: s81 :: s82 :: s83 :: s84 :: s85 :: s86 :: s87 :: s88 :: s89 :: []:List Value).toArray,defers:=[] } w') :
  (Code.region id tel_ops.toArray true).wp Try.prog Q { tmps:=(s0 :: s1 :: (.pointer (some ⟨g,0,none⟩)) :: (.pointer (some ⟨h,0,none⟩)) :: s4 :: (.int .i64 i) :: s6 :: s7 :: s8 :: s9 :: s10 :: s11 :: s12 :: s13 :: s14 :: s15 :: s16 :: s17 :: s18 :: s19 :: s20 :: s21 :: s22 :: s23 :: s24 :: s25 :: s26 :: s27 :: s28 :: s29 :: s30 :: s31 :: s32 :: s33 :: s34 :: s35 :: s36 :: s37 :: s38 :: s39 :: s40 :: s41 :: s42 :: s43 :: s44 :: s45 :: s46 :: s47 :: s48 :: s49 :: s50 :: s51 :: s52 :: s53 :: s54 :: s55 :: s56 :: s57 :: s58 :: s59 :: s60 :: s61 :: s62 :: s63 :: s64 :: s65 :: s66 :: s67 :: s68 :: s69 :: s70 :: s71 :: s72 :: s73 :: s74 :: s75 :: s76 :: s77 :: s78 :: s79 :: s80 :: s81 :: s82 :: s83 :: s84 :: s85 :: s86 :: s87 :: s88 :: s89 :: []:List Value).toArray,defers:=[] } w0:=by
 refine wp_region_est (by kernel_rfl) (est2 0 0 (fun _=>False) (fun _=>False)) tel_C (tel_F w0 g h i p q t u ga oa gd od m1 xk xn yk yn A1 A2 n1 c1 n2 c2 r) (est2_dis (fun _ h _=>h)) (est2_range (fun _ h=>h.elim) (fun _ h=>h.elim)) (by rfl) (by kernel_rfl) (tel_obs w0.drew g h i p q t u ga oa gd od m1 xk xn yk yn A1 A2 n1 c1 n2 c2 r hx2 hx3 hpB hqB hm1 hm2 hga hgd him hm9 ca0 ca1 ca2 cb0 cb1 cb2 (fun w h=>hEQ w (below_undrewQ h)) _ _ rfl rfl rfl) ?_
 intro a w' O hd hs hb hf hf2 ha hsame
 have hl:=slots_eq (ops:=tel_ops.toArray) [(58,.pointer (some ⟨g,6,none⟩)),(59,.slice (some ⟨ga,oa,none⟩) m1 p.d),(60,.int .i64 i),(61,.pointer (some ⟨ga,oa+i * 3,none⟩)),(62,.agg #[.int .i64 xk,.int .i64 xn,.slice A1 n1 c1]),(63,.pointer (some ⟨h,6,none⟩)),(64,.slice (some ⟨gd,od,none⟩) m1 q.d),(65,.int .i64 i),(66,.pointer (some ⟨gd,od+i * 3,none⟩)),(67,.agg #[.int .i64 yk,.int .i64 yn,.slice A2 n2 c2]),(68,.bool r),(69,.bool (!r))] (show a.tmps.size=90 from hs) (fun i h=>hsame i h) ⟨(hf 0 _ 58 rfl rfl (by decide)).1,(hf 1 _ 59 rfl rfl (by decide)).1,(hf 2 _ 60 rfl rfl (by decide)).1,(hf 3 _ 61 rfl rfl (by decide)).1,(hf 4 _ 62 rfl rfl (by decide)).1,(hf 5 _ 63 rfl rfl (by decide)).1,(hf 6 _ 64 rfl rfl (by decide)).1,(hf 7 _ 65 rfl rfl (by decide)).1,(hf 8 _ 66 rfl rfl (by decide)).1,(hf 9 _ 67 rfl rfl (by decide)).1,(hf 10 _ 68 rfl rfl (by decide)).1,(hf 11 _ 69 rfl rfl (by decide)).1,trivial⟩ (by kernel_rfl)
 obtain ⟨tmps,defers⟩:=a
 obtain rfl:defers=[]:=hd
 have hl':tmps=_:=hl
 rw [hl']
 have hb':=est2_chg hb
 refine Eq.mp ?_ (hend w' ⟨hb'.os,hb'.tape,hb'.output,hb'.size,hb'.block⟩)
 kernel_rfl

def tek_ops:List Oper:=[
 { dst:=some 77,op:=Go.Op.fieldAddr 27 (Go.Operand.tmp 2) 5,type:=0,pos:= "ref.go:421",after:=#[],guard:=none },
 { dst:=some 78,op:=Go.Op.load 25 (Go.Operand.tmp 77),type:=25,pos:= "ref.go:421",after:=#[{ on:=0,ground:=Go.Ground.data }],guard:=none },
 { dst:=some 79,op:=Go.Op.move (Go.Operand.tmp 6),type:=3,pos:= "ref.go:421",after:=#[],guard:=none },
 { dst:=some 80,op:=Go.Op.indexAddr 25 (Go.Operand.tmp 78) (Go.Operand.tmp 79),type:=0,pos:= "ref.go:421",after:=#[{ on:=1,ground:=Go.Ground.data },{ on:=2,ground:=Go.Ground.data }],guard:=none },
 { dst:=some 81,op:=Go.Op.load 27 (Go.Operand.tmp 80),type:=27,pos:= "ref.go:421",after:=#[{ on:=3,ground:=Go.Ground.data }],guard:=none },
 { dst:=some 82,op:=Go.Op.fieldAddr 27 (Go.Operand.tmp 3) 5,type:=0,pos:= "ref.go:421",after:=#[],guard:=none },
 { dst:=some 83,op:=Go.Op.load 25 (Go.Operand.tmp 82),type:=25,pos:= "ref.go:421",after:=#[{ on:=5,ground:=Go.Ground.data }],guard:=none },
 { dst:=some 84,op:=Go.Op.move (Go.Operand.tmp 6),type:=3,pos:= "ref.go:421",after:=#[],guard:=none },
 { dst:=some 85,op:=Go.Op.indexAddr 25 (Go.Operand.tmp 83) (Go.Operand.tmp 84),type:=0,pos:= "ref.go:421",after:=#[{ on:=6,ground:=Go.Ground.data },{ on:=7,ground:=Go.Ground.data }],guard:=none },
 { dst:=some 86,op:=Go.Op.load 27 (Go.Operand.tmp 85),type:=27,pos:= "ref.go:421",after:=#[{ on:=8,ground:=Go.Ground.data }],guard:=none },
 { dst:=some 87,op:=Go.Op.call { callee:=Go.Callee.value (Go.Operand.func 74),args:=#[Go.Operand.tmp 81,Go.Operand.tmp 86],argTypes:=#[27,27] },type:=4,pos:= "ref.go:421",after:=#[{ on:=4,ground:=Go.Ground.data },{ on:=9,ground:=Go.Ground.data }],guard:=none },
 { dst:=some 88,op:=Go.Op.unOp Go.UnOp.not 4 (Go.Operand.tmp 87),type:=4,pos:= "ref.go:421",after:=#[{ on:=10,ground:=Go.Ground.data }],guard:=none }]
def tek_F (w0:World) (g h i:Nat) (p q:Pl) (t u:Tm) (ga oa gd od m1:Nat) (qx qy:Pl) (x y:Tm) (r:Bool):Nat→(Nat→Value)→Value→World→(Nat→Prop)→Prop:=fun rix=>match rix with
 | 0=>fun _ v _ _=>v=.pointer (some ⟨g,7,none⟩)
 | 1=>fun _ v _ _=>v=.slice (some ⟨ga,oa,none⟩) m1 p.e
 | 2=>fun _ v _ _=>v=.int .i64 i
 | 3=>fun _ v _ _=>v=.pointer (some ⟨ga,oa+i * 8,none⟩)
 | 4=>fun _ v _ _=>v=tmV qx x
 | 5=>fun _ v _ _=>v=.pointer (some ⟨h,7,none⟩)
 | 6=>fun _ v _ _=>v=.slice (some ⟨gd,od,none⟩) m1 q.e
 | 7=>fun _ v _ _=>v=.int .i64 i
 | 8=>fun _ v _ _=>v=.pointer (some ⟨gd,od+i * 8,none⟩)
 | 9=>fun _ v _ _=>v=tmV qy y
 | 10=>fun _ v _ _=>v=.bool r
 | 11=>fun _ v _ _=>v=.bool (!r)
 | _=>fun _ _ _ _=>True
def tek_C:Nat→List Nat:=fun rix=>match rix with
 | _=>[]
theorem tek_nw2:nwB tek_ops.toArray 2=true:=by kernel_rfl
theorem tek_nw3:nwB tek_ops.toArray 3=true:=by kernel_rfl
theorem tek_nw6:nwB tek_ops.toArray 6=true:=by kernel_rfl
set_option maxRecDepth 100000 in
set_option maxHeartbeats 8000000 in
theorem tek_obs (w0:World) (g h i:Nat) (p q:Pl) (t u:Tm) (ga oa gd od m1:Nat) (qx qy:Pl) (x y:Tm) (r:Bool) (hx2:w0.heap[g]?=some (tmO p t)) (hx3:w0.heap[h]?=some (tmO q u)) (hpB:p.K=some ⟨ga,oa,none⟩) (hqB:q.K=some ⟨gd,od,none⟩) (hm1:t.kids.length=m1) (hm2:u.kids.length=m1) (hga:ga<w0.heap.size) (hgd:gd<w0.heap.size) (him:i<m1) (hm9:m1≤9223372036854775807) (ca0:w0.cell? ⟨ga,oa+i * 8,none⟩=some (.int .i64 x.kind)) (ca1:w0.cell? ⟨ga,oa+i * 8+1,none⟩=some (.int .i64 x.num)) (ca2:w0.cell? ⟨ga,oa+i * 8+2,none⟩=some (.string x.name)) (ca3:w0.cell? ⟨ga,oa+i * 8+3,none⟩=some (.int .i64 x.lv.kind)) (ca4:w0.cell? ⟨ga,oa+i * 8+4,none⟩=some (.int .i64 x.lv.num)) (ca5:w0.cell? ⟨ga,oa+i * 8+5,none⟩=some (.slice qx.A x.lv.kids.length qx.c)) (ca6:w0.cell? ⟨ga,oa+i * 8+6,none⟩=some (.slice qx.B x.ls.length qx.d)) (ca7:w0.cell? ⟨ga,oa+i * 8+7,none⟩=some (.slice qx.K x.kids.length qx.e)) (cb0:w0.cell? ⟨gd,od+i * 8,none⟩=some (.int .i64 y.kind)) (cb1:w0.cell? ⟨gd,od+i * 8+1,none⟩=some (.int .i64 y.num)) (cb2:w0.cell? ⟨gd,od+i * 8+2,none⟩=some (.string y.name)) (cb3:w0.cell? ⟨gd,od+i * 8+3,none⟩=some (.int .i64 y.lv.kind)) (cb4:w0.cell? ⟨gd,od+i * 8+4,none⟩=some (.int .i64 y.lv.num)) (cb5:w0.cell? ⟨gd,od+i * 8+5,none⟩=some (.slice qy.A y.lv.kids.length qy.c)) (cb6:w0.cell? ⟨gd,od+i * 8+6,none⟩=some (.slice qy.B y.ls.length qy.d)) (cb7:w0.cell? ⟨gd,od+i * 8+7,none⟩=some (.slice qy.K y.kids.length qy.e)) (hEQ:∀ w,Below w0.heap.size w0 w→Calls Try.prog 74 #[tmV qx x,tmV qy y] w fun e w'=>e=.returned (.bool r)∧Below w.heap.size w w') (Q:Exit→Act→World→Prop) (a0:Act) (hi2:a0.tmps.getD 2 undef=.pointer (some ⟨g,0,none⟩)) (hi3:a0.tmps.getD 3 undef=.pointer (some ⟨h,0,none⟩)) (hi6:a0.tmps.getD 6 undef=.int .i64 i) :
  ObsE Try.prog tek_ops.toArray Q (est2 0 0 (fun _=>False) (fun _=>False)) tek_C (tek_F w0 g h i p q t u ga oa gd od m1 qx qy x y r) a0 w0 tek_ops.toArray.toList 0:=by
 have nw2:=tek_nw2
 have nw3:=tek_nw3
 have nw6:=tek_nw6
 refine ⟨?_,?_,?_,?_,?_,?_,?_,?_,?_,?_,?_,?_,trivial⟩
 ·refine ⟨⟨fun τ=>stableE_det _,leans_not⟩,?_⟩
  intro a w O hk
  have e2:a.eval (.tmp 2)=.pointer (some ⟨g,0,none⟩):=(hk.init 2 (initialB_of_nw nw2)).trans hi2
  have x2:=hk.world.still hx2 (fun ⟨_,h⟩=>h.elim And.right And.right)
  have x3:=hk.world.still hx3 (fun ⟨_,h⟩=>h.elim And.right And.right)
  have hcc:∀ j,w.cell? ⟨ga,j,none⟩=w0.cell? ⟨ga,j,none⟩:=fun j=>cell_same ((hk.world.below (fun k ⟨_,h⟩=>h.elim (fun h=>h.2.elim) fun h=>h.2.elim) (Nat.le_refl _)).block _ hga)
  have hcd:∀ j,w.cell? ⟨gd,j,none⟩=w0.cell? ⟨gd,j,none⟩:=fun j=>cell_same ((hk.world.below (fun k ⟨_,h⟩=>h.elim (fun h=>h.2.elim) fun h=>h.2.elim) (Nat.le_refl _)).block _ hgd)
  have hbl:Below w0.heap.size w0 w:=(hk.world.below (fun k ⟨_,h⟩=>h.elim (fun h=>h.2.elim) fun h=>h.2.elim) (Nat.le_refl _))
  exact obE_run (wanted_none rfl) (by unfold execOp;simp only [];rw [e2];go_simp) rfl
 ·refine ⟨⟨fun τ=>stableE_det _,leans_not⟩,?_⟩
  intro a w O hk
  have e77:a.eval (.tmp 77)=.pointer (some ⟨g,7,none⟩):=hk.fact 0 _ 77 rfl rfl rfl rfl
  have x2:=hk.world.still hx2 (fun ⟨_,h⟩=>h.elim And.right And.right)
  have x3:=hk.world.still hx3 (fun ⟨_,h⟩=>h.elim And.right And.right)
  have hcc:∀ j,w.cell? ⟨ga,j,none⟩=w0.cell? ⟨ga,j,none⟩:=fun j=>cell_same ((hk.world.below (fun k ⟨_,h⟩=>h.elim (fun h=>h.2.elim) fun h=>h.2.elim) (Nat.le_refl _)).block _ hga)
  have hcd:∀ j,w.cell? ⟨gd,j,none⟩=w0.cell? ⟨gd,j,none⟩:=fun j=>cell_same ((hk.world.below (fun k ⟨_,h⟩=>h.elim (fun h=>h.2.elim) fun h=>h.2.elim) (Nat.le_refl _)).block _ hgd)
  have hbl:Below w0.heap.size w0 w:=(hk.world.below (fun k ⟨_,h⟩=>h.elim (fun h=>h.2.elim) fun h=>h.2.elim) (Nat.le_refl _))
  obtain ⟨p0,p1,p2,p3,p4,p5,p6,p7⟩:=row8 x2
  rw [hpB,hm1] at p7
  exact obE_run (wanted_none rfl) (by unfold execOp;simp only [];rw [e77];go_simp) rfl
 ·refine ⟨⟨fun τ=>stableE_det _,leans_not⟩,?_⟩
  intro a w O hk
  have e6:a.eval (.tmp 6)=.int .i64 i:=(hk.init 6 (initialB_of_nw nw6)).trans hi6
  exact toE (ob_move rfl e6 (wanted_none rfl) rfl)
 ·refine ⟨⟨fun τ=>stableE_det _,leans_not⟩,?_⟩
  intro a w O hk
  have e78:a.eval (.tmp 78)=.slice (some ⟨ga,oa,none⟩) m1 p.e:=hk.fact 1 _ 78 rfl rfl rfl rfl
  have e79:a.eval (.tmp 79)=.int .i64 i:=hk.fact 2 _ 79 rfl rfl rfl rfl
  have x2:=hk.world.still hx2 (fun ⟨_,h⟩=>h.elim And.right And.right)
  have x3:=hk.world.still hx3 (fun ⟨_,h⟩=>h.elim And.right And.right)
  have hcc:∀ j,w.cell? ⟨ga,j,none⟩=w0.cell? ⟨ga,j,none⟩:=fun j=>cell_same ((hk.world.below (fun k ⟨_,h⟩=>h.elim (fun h=>h.2.elim) fun h=>h.2.elim) (Nat.le_refl _)).block _ hga)
  have hcd:∀ j,w.cell? ⟨gd,j,none⟩=w0.cell? ⟨gd,j,none⟩:=fun j=>cell_same ((hk.world.below (fun k ⟨_,h⟩=>h.elim (fun h=>h.2.elim) fun h=>h.2.elim) (Nat.le_refl _)).block _ hgd)
  have hbl:Below w0.heap.size w0 w:=(hk.world.below (fun k ⟨_,h⟩=>h.elim (fun h=>h.2.elim) fun h=>h.2.elim) (Nat.le_refl _))
  exact obE_run (wanted_none rfl) (by unfold execOp;simp only [];rw [e78,e79];go_simp) rfl
 ·refine ⟨⟨fun τ=>stableE_det _,leans_not⟩,?_⟩
  intro a w O hk
  have e80:a.eval (.tmp 80)=.pointer (some ⟨ga,oa+i * 8,none⟩):=hk.fact 3 _ 80 rfl rfl rfl rfl
  have x2:=hk.world.still hx2 (fun ⟨_,h⟩=>h.elim And.right And.right)
  have x3:=hk.world.still hx3 (fun ⟨_,h⟩=>h.elim And.right And.right)
  have hcc:∀ j,w.cell? ⟨ga,j,none⟩=w0.cell? ⟨ga,j,none⟩:=fun j=>cell_same ((hk.world.below (fun k ⟨_,h⟩=>h.elim (fun h=>h.2.elim) fun h=>h.2.elim) (Nat.le_refl _)).block _ hga)
  have hcd:∀ j,w.cell? ⟨gd,j,none⟩=w0.cell? ⟨gd,j,none⟩:=fun j=>cell_same ((hk.world.below (fun k ⟨_,h⟩=>h.elim (fun h=>h.2.elim) fun h=>h.2.elim) (Nat.le_refl _)).block _ hgd)
  have hbl:Below w0.heap.size w0 w:=(hk.world.below (fun k ⟨_,h⟩=>h.elim (fun h=>h.2.elim) fun h=>h.2.elim) (Nat.le_refl _))
  have r0:=(hcc _).trans ca0
  have r1:=(hcc _).trans ca1
  have r2:=(hcc _).trans ca2
  have r3:=(hcc _).trans ca3
  have r4:=(hcc _).trans ca4
  have r5:=(hcc _).trans ca5
  have r6:=(hcc _).trans ca6
  have r7:=(hcc _).trans ca7
  exact obE_run (wanted_none rfl) (by unfold execOp;simp only [];rw [e80];go_simp;rfl) rfl
 ·refine ⟨⟨fun τ=>stableE_det _,leans_not⟩,?_⟩
  intro a w O hk
  have e3:a.eval (.tmp 3)=.pointer (some ⟨h,0,none⟩):=(hk.init 3 (initialB_of_nw nw3)).trans hi3
  have x2:=hk.world.still hx2 (fun ⟨_,h⟩=>h.elim And.right And.right)
  have x3:=hk.world.still hx3 (fun ⟨_,h⟩=>h.elim And.right And.right)
  have hcc:∀ j,w.cell? ⟨ga,j,none⟩=w0.cell? ⟨ga,j,none⟩:=fun j=>cell_same ((hk.world.below (fun k ⟨_,h⟩=>h.elim (fun h=>h.2.elim) fun h=>h.2.elim) (Nat.le_refl _)).block _ hga)
  have hcd:∀ j,w.cell? ⟨gd,j,none⟩=w0.cell? ⟨gd,j,none⟩:=fun j=>cell_same ((hk.world.below (fun k ⟨_,h⟩=>h.elim (fun h=>h.2.elim) fun h=>h.2.elim) (Nat.le_refl _)).block _ hgd)
  have hbl:Below w0.heap.size w0 w:=(hk.world.below (fun k ⟨_,h⟩=>h.elim (fun h=>h.2.elim) fun h=>h.2.elim) (Nat.le_refl _))
  exact obE_run (wanted_none rfl) (by unfold execOp;simp only [];rw [e3];go_simp) rfl
 ·refine ⟨⟨fun τ=>stableE_det _,leans_not⟩,?_⟩
  intro a w O hk
  have e82:a.eval (.tmp 82)=.pointer (some ⟨h,7,none⟩):=hk.fact 5 _ 82 rfl rfl rfl rfl
  have x2:=hk.world.still hx2 (fun ⟨_,h⟩=>h.elim And.right And.right)
  have x3:=hk.world.still hx3 (fun ⟨_,h⟩=>h.elim And.right And.right)
  have hcc:∀ j,w.cell? ⟨ga,j,none⟩=w0.cell? ⟨ga,j,none⟩:=fun j=>cell_same ((hk.world.below (fun k ⟨_,h⟩=>h.elim (fun h=>h.2.elim) fun h=>h.2.elim) (Nat.le_refl _)).block _ hga)
  have hcd:∀ j,w.cell? ⟨gd,j,none⟩=w0.cell? ⟨gd,j,none⟩:=fun j=>cell_same ((hk.world.below (fun k ⟨_,h⟩=>h.elim (fun h=>h.2.elim) fun h=>h.2.elim) (Nat.le_refl _)).block _ hgd)
  have hbl:Below w0.heap.size w0 w:=(hk.world.below (fun k ⟨_,h⟩=>h.elim (fun h=>h.2.elim) fun h=>h.2.elim) (Nat.le_refl _))
  obtain ⟨p0,p1,p2,p3,p4,p5,p6,p7⟩:=row8 x3
  rw [hqB,hm2] at p7
  exact obE_run (wanted_none rfl) (by unfold execOp;simp only [];rw [e82];go_simp) rfl
 ·refine ⟨⟨fun τ=>stableE_det _,leans_not⟩,?_⟩
  intro a w O hk
  have e6:a.eval (.tmp 6)=.int .i64 i:=(hk.init 6 (initialB_of_nw nw6)).trans hi6
  exact toE (ob_move rfl e6 (wanted_none rfl) rfl)
 ·refine ⟨⟨fun τ=>stableE_det _,leans_not⟩,?_⟩
  intro a w O hk
  have e83:a.eval (.tmp 83)=.slice (some ⟨gd,od,none⟩) m1 q.e:=hk.fact 6 _ 83 rfl rfl rfl rfl
  have e84:a.eval (.tmp 84)=.int .i64 i:=hk.fact 7 _ 84 rfl rfl rfl rfl
  have x2:=hk.world.still hx2 (fun ⟨_,h⟩=>h.elim And.right And.right)
  have x3:=hk.world.still hx3 (fun ⟨_,h⟩=>h.elim And.right And.right)
  have hcc:∀ j,w.cell? ⟨ga,j,none⟩=w0.cell? ⟨ga,j,none⟩:=fun j=>cell_same ((hk.world.below (fun k ⟨_,h⟩=>h.elim (fun h=>h.2.elim) fun h=>h.2.elim) (Nat.le_refl _)).block _ hga)
  have hcd:∀ j,w.cell? ⟨gd,j,none⟩=w0.cell? ⟨gd,j,none⟩:=fun j=>cell_same ((hk.world.below (fun k ⟨_,h⟩=>h.elim (fun h=>h.2.elim) fun h=>h.2.elim) (Nat.le_refl _)).block _ hgd)
  have hbl:Below w0.heap.size w0 w:=(hk.world.below (fun k ⟨_,h⟩=>h.elim (fun h=>h.2.elim) fun h=>h.2.elim) (Nat.le_refl _))
  exact obE_run (wanted_none rfl) (by unfold execOp;simp only [];rw [e83,e84];go_simp) rfl
 ·refine ⟨⟨fun τ=>stableE_det _,leans_not⟩,?_⟩
  intro a w O hk
  have e85:a.eval (.tmp 85)=.pointer (some ⟨gd,od+i * 8,none⟩):=hk.fact 8 _ 85 rfl rfl rfl rfl
  have x2:=hk.world.still hx2 (fun ⟨_,h⟩=>h.elim And.right And.right)
  have x3:=hk.world.still hx3 (fun ⟨_,h⟩=>h.elim And.right And.right)
  have hcc:∀ j,w.cell? ⟨ga,j,none⟩=w0.cell? ⟨ga,j,none⟩:=fun j=>cell_same ((hk.world.below (fun k ⟨_,h⟩=>h.elim (fun h=>h.2.elim) fun h=>h.2.elim) (Nat.le_refl _)).block _ hga)
  have hcd:∀ j,w.cell? ⟨gd,j,none⟩=w0.cell? ⟨gd,j,none⟩:=fun j=>cell_same ((hk.world.below (fun k ⟨_,h⟩=>h.elim (fun h=>h.2.elim) fun h=>h.2.elim) (Nat.le_refl _)).block _ hgd)
  have hbl:Below w0.heap.size w0 w:=(hk.world.below (fun k ⟨_,h⟩=>h.elim (fun h=>h.2.elim) fun h=>h.2.elim) (Nat.le_refl _))
  have r0:=(hcd _).trans cb0
  have r1:=(hcd _).trans cb1
  have r2:=(hcd _).trans cb2
  have r3:=(hcd _).trans cb3
  have r4:=(hcd _).trans cb4
  have r5:=(hcd _).trans cb5
  have r6:=(hcd _).trans cb6
  have r7:=(hcd _).trans cb7
  exact obE_run (wanted_none rfl) (by unfold execOp;simp only [];rw [e85];go_simp;rfl) rfl
 ·refine ⟨⟨fun τ=>stableE_det _,leans_not⟩,?_⟩
  intro a w O hk
  have e81:a.eval (.tmp 81)=tmV qx x:=hk.fact 4 _ 81 rfl rfl rfl rfl
  have e86:a.eval (.tmp 86)=tmV qy y:=hk.fact 9 _ 86 rfl rfl rfl rfl
  have x2:=hk.world.still hx2 (fun ⟨_,h⟩=>h.elim And.right And.right)
  have x3:=hk.world.still hx3 (fun ⟨_,h⟩=>h.elim And.right And.right)
  have hcc:∀ j,w.cell? ⟨ga,j,none⟩=w0.cell? ⟨ga,j,none⟩:=fun j=>cell_same ((hk.world.below (fun k ⟨_,h⟩=>h.elim (fun h=>h.2.elim) fun h=>h.2.elim) (Nat.le_refl _)).block _ hga)
  have hcd:∀ j,w.cell? ⟨gd,j,none⟩=w0.cell? ⟨gd,j,none⟩:=fun j=>cell_same ((hk.world.below (fun k ⟨_,h⟩=>h.elim (fun h=>h.2.elim) fun h=>h.2.elim) (Nat.le_refl _)).block _ hgd)
  have hbl:Below w0.heap.size w0 w:=(hk.world.below (fun k ⟨_,h⟩=>h.elim (fun h=>h.2.elim) fun h=>h.2.elim) (Nat.le_refl _))
  exact obE_callV #[tmV qx x,tmV qy y] rfl rfl rfl rfl (by simp only [List.map_cons,List.map_nil];rw [e81,e86]) (wanted_none rfl) (hEQ w hbl)
 ·refine ⟨⟨fun τ=>stableE_det _,leans_not⟩,?_⟩
  intro a w O hk
  have e87:a.eval (.tmp 87)=.bool r:=hk.fact 10 _ 87 rfl rfl rfl rfl
  have x2:=hk.world.still hx2 (fun ⟨_,h⟩=>h.elim And.right And.right)
  have x3:=hk.world.still hx3 (fun ⟨_,h⟩=>h.elim And.right And.right)
  have hcc:∀ j,w.cell? ⟨ga,j,none⟩=w0.cell? ⟨ga,j,none⟩:=fun j=>cell_same ((hk.world.below (fun k ⟨_,h⟩=>h.elim (fun h=>h.2.elim) fun h=>h.2.elim) (Nat.le_refl _)).block _ hga)
  have hcd:∀ j,w.cell? ⟨gd,j,none⟩=w0.cell? ⟨gd,j,none⟩:=fun j=>cell_same ((hk.world.below (fun k ⟨_,h⟩=>h.elim (fun h=>h.2.elim) fun h=>h.2.elim) (Nat.le_refl _)).block _ hgd)
  have hbl:Below w0.heap.size w0 w:=(hk.world.below (fun k ⟨_,h⟩=>h.elim (fun h=>h.2.elim) fun h=>h.2.elim) (Nat.le_refl _))
  exact obE_run (wanted_none rfl) (by unfold execOp;simp only [];rw [e87];go_simp) rfl
set_option maxRecDepth 100000 in
set_option maxHeartbeats 8000000 in
theorem tek_region {Q:Exit→Act→World→Prop} {id:Nat} (w0:World) (g h i:Nat) (p q:Pl) (t u:Tm) (ga oa gd od m1:Nat) (qx qy:Pl) (x y:Tm) (r:Bool) {s0 s1 s4 s5 s7 s8 s9 s10 s11 s12 s13 s14 s15 s16 s17 s18 s19 s20 s21 s22 s23 s24 s25 s26 s27 s28 s29 s30 s31 s32 s33 s34 s35 s36 s37 s38 s39 s40 s41 s42 s43 s44 s45 s46 s47 s48 s49 s50 s51 s52 s53 s54 s55 s56 s57 s58 s59 s60 s61 s62 s63 s64 s65 s66 s67 s68 s69 s70 s71 s72 s73 s74 s75 s76 s77 s78 s79 s80 s81 s82 s83 s84 s85 s86 s87 s88 s89:Value} (hx2:w0.heap[g]?=some (tmO p t)) (hx3:w0.heap[h]?=some (tmO q u)) (hpB:p.K=some ⟨ga,oa,none⟩) (hqB:q.K=some ⟨gd,od,none⟩) (hm1:t.kids.length=m1) (hm2:u.kids.length=m1) (hga:ga<w0.heap.size) (hgd:gd<w0.heap.size) (him:i<m1) (hm9:m1≤9223372036854775807) (ca0:w0.cell? ⟨ga,oa+i * 8,none⟩=some (.int .i64 x.kind)) (ca1:w0.cell? ⟨ga,oa+i * 8+1,none⟩=some (.int .i64 x.num)) (ca2:w0.cell? ⟨ga,oa+i * 8+2,none⟩=some (.string x.name)) (ca3:w0.cell? ⟨ga,oa+i * 8+3,none⟩=some (.int .i64 x.lv.kind)) (ca4:w0.cell? ⟨ga,oa+i * 8+4,none⟩=some (.int .i64 x.lv.num)) (ca5:w0.cell? ⟨ga,oa+i * 8+5,none⟩=some (.slice qx.A x.lv.kids.length qx.c)) (ca6:w0.cell? ⟨ga,oa+i * 8+6,none⟩=some (.slice qx.B x.ls.length qx.d)) (ca7:w0.cell? ⟨ga,oa+i * 8+7,none⟩=some (.slice qx.K x.kids.length qx.e)) (cb0:w0.cell? ⟨gd,od+i * 8,none⟩=some (.int .i64 y.kind)) (cb1:w0.cell? ⟨gd,od+i * 8+1,none⟩=some (.int .i64 y.num)) (cb2:w0.cell? ⟨gd,od+i * 8+2,none⟩=some (.string y.name)) (cb3:w0.cell? ⟨gd,od+i * 8+3,none⟩=some (.int .i64 y.lv.kind)) (cb4:w0.cell? ⟨gd,od+i * 8+4,none⟩=some (.int .i64 y.lv.num)) (cb5:w0.cell? ⟨gd,od+i * 8+5,none⟩=some (.slice qy.A y.lv.kids.length qy.c)) (cb6:w0.cell? ⟨gd,od+i * 8+6,none⟩=some (.slice qy.B y.ls.length qy.d)) (cb7:w0.cell? ⟨gd,od+i * 8+7,none⟩=some (.slice qy.K y.kids.length qy.e)) (hEQ:∀ w,Below w0.heap.size w0 w→Calls Try.prog 74 #[tmV qx x,tmV qy y] w fun e w'=>e=.returned (.bool r)∧Below w.heap.size w w')
  (hend:∀ (w':World),Chg (fun k=>False∨False) w0 w'→Q .normal { tmps:=(s0 :: s1 :: (.pointer (some ⟨g,0,none⟩)) :: (.pointer (some ⟨h,0,none⟩)) :: s4 :: s5 :: (.int .i64 i) :: s7 :: s8 :: s9 :: s10 :: s11 :: s12 :: s13 :: s14 :: s15 :: s16 :: s17 :: s18 :: s19 :: s20 :: s21 :: s22 :: s23 :: s24 :: s25 :: s26 :: s27 :: s28 :: s29 :: s30 :: s31 :: s32 :: s33 :: s34 :: s35 :: s36 :: s37 :: s38 :: s39 :: s40 :: s41 :: s42 :: s43 :: s44 :: s45 :: s46 :: s47 :: s48 :: s49 :: s50 :: s51 :: s52 :: s53 :: s54 :: s55 :: s56 :: s57 :: s58 :: s59 :: s60 :: s61 :: s62 :: s63 :: s64 :: s65 :: s66 :: s67 :: s68 :: s69 :: s70 :: s71 :: s72 :: s73 :: s74 :: s75 :: s76 :: (.pointer (some ⟨g,7,none⟩)) :: (.slice (some ⟨ga,oa,none⟩) m1 p.e) :: (.int .i64 i) :: (.pointer (some ⟨ga,oa+i * 8,none⟩)) :: (tmV qx x) :: (.pointer (some ⟨h,7,none⟩)) :: (.slice (some ⟨gd,od,none⟩) m1 q.e) :: (.int .i64 i) :: (.pointer (some ⟨gd,od+i * 8,none⟩)) :: (tmV qy y) :: (.bool r) :: (.bool (!r)) :: s89 :: []:List Value).toArray,defers:=[] } w') :
  (Code.region id tek_ops.toArray true).wp Try.prog Q { tmps:=(s0 :: s1 :: (.pointer (some ⟨g,0,none⟩)) :: (.pointer (some ⟨h,0,none⟩)) :: s4 :: s5 :: (.int .i64 i) :: s7 :: s8 :: s9 :: s10 :: s11 :: s12 :: s13 :: s14 :: s15 :: s16 :: s17 :: s18 :: s19 :: s20 :: s21 :: s22 :: s23 :: s24 :: s25 :: s26 :: s27 :: s28 :: s29 :: s30 :: s31 :: s32 :: s33 :: s34 :: s35 :: s36 :: s37 :: s38 :: s39 :: s40 :: s41 :: s42 :: s43 :: s44 :: s45 :: s46 :: s47 :: s48 :: s49 :: s50 :: s51 :: s52 :: s53 :: s54 :: s55 :: s56 :: s57 :: s58 :: s59 :: s60 :: s61 :: s62 :: s63 :: s64 :: s65 :: s66 :: s67 :: s68 :: s69 :: s70 :: s71 :: s72 :: s73 :: s74 :: s75 :: s76 :: s77 :: s78 :: s79 :: s80 :: s81 :: s82 :: s83 :: s84 :: s85 :: s86 :: s87 :: s88 :: s89 :: []:List Value).toArray,defers:=[] } w0:=by
 refine wp_region_est (by kernel_rfl) (est2 0 0 (fun _=>False) (fun _=>False)) tek_C (tek_F w0 g h i p q t u ga oa gd od m1 qx qy x y r) (est2_dis (fun _ h _=>h)) (est2_range (fun _ h=>h.elim) (fun _ h=>h.elim)) (by rfl) (by kernel_rfl) (tek_obs w0.drew g h i p q t u ga oa gd od m1 qx qy x y r hx2 hx3 hpB hqB hm1 hm2 hga hgd him hm9 ca0 ca1 ca2 ca3 ca4 ca5 ca6 ca7 cb0 cb1 cb2 cb3 cb4 cb5 cb6 cb7 (fun w h=>hEQ w (below_undrewQ h)) _ _ rfl rfl rfl) ?_
 intro a w' O hd hs hb hf hf2 ha hsame
 have hl:=slots_eq (ops:=tek_ops.toArray) [(77,.pointer (some ⟨g,7,none⟩)),(78,.slice (some ⟨ga,oa,none⟩) m1 p.e),(79,.int .i64 i),(80,.pointer (some ⟨ga,oa+i * 8,none⟩)),(81,tmV qx x),(82,.pointer (some ⟨h,7,none⟩)),(83,.slice (some ⟨gd,od,none⟩) m1 q.e),(84,.int .i64 i),(85,.pointer (some ⟨gd,od+i * 8,none⟩)),(86,tmV qy y),(87,.bool r),(88,.bool (!r))] (show a.tmps.size=90 from hs) (fun i h=>hsame i h) ⟨(hf 0 _ 77 rfl rfl (by decide)).1,(hf 1 _ 78 rfl rfl (by decide)).1,(hf 2 _ 79 rfl rfl (by decide)).1,(hf 3 _ 80 rfl rfl (by decide)).1,(hf 4 _ 81 rfl rfl (by decide)).1,(hf 5 _ 82 rfl rfl (by decide)).1,(hf 6 _ 83 rfl rfl (by decide)).1,(hf 7 _ 84 rfl rfl (by decide)).1,(hf 8 _ 85 rfl rfl (by decide)).1,(hf 9 _ 86 rfl rfl (by decide)).1,(hf 10 _ 87 rfl rfl (by decide)).1,(hf 11 _ 88 rfl rfl (by decide)).1,trivial⟩ (by kernel_rfl)
 obtain ⟨tmps,defers⟩:=a
 obtain rfl:defers=[]:=hd
 have hl':tmps=_:=hl
 rw [hl']
 have hb':=est2_chg hb
 refine Eq.mp ?_ (hend w' ⟨hb'.os,hb'.tape,hb'.output,hb'.size,hb'.block⟩)
 kernel_rfl

end Go.Proofs.Ytcgkeolgflphiaa

namespace Go.Proofs.Ytcgkeolgflphiaa
open Go.RowKit Go.Proofs.YtcgkeolgflphiaaW.PrintWords Go.RegionInvYtcgkeolgflphiaa Go.RegionEYtcgkeolgflphiaa

theorem refSame_at (A B:Option Addr) (c c' m:Nat) (k n:Int) (a:Lv) (w:World) (hk:a.kind=k) (hn:a.num=n) (hm:a.kids.length=m) (ha:LvIn w w.heap.size A c a) (hb:LvIn w w.heap.size B c' a) (hs:sz a≤5000) :
  Calls Try.prog 94 #[.agg #[.int .i64 k,.int .i64 n,.slice A m c],.agg #[.int .i64 k,.int .i64 n,.slice B m c']] w fun e w'=>e=.returned (.bool true)∧Below w.heap.size w w':=by
 subst hk hn hm
 have h:=refSame_calls A B c c' a a w ha hb hs
 rw [sim_self] at h
 exact h
theorem tin_all {w W:World} {p:Pl} {t:Tm} (h:TmIn w w.heap.size p t) (hb:Below w.heap.size w W):TmIn W W.heap.size p t:=TmS.all (TmIn.stay h hb)
set_option maxRecDepth 100000 in
set_option maxHeartbeats 4000000 in
theorem equal_self (N:Nat):∀ (t:Tm),SizeOf.sizeOf t<N→EqOk t→∀ (p q:Pl) (w:World),TmIn w w.heap.size p t→TmIn w w.heap.size q t →
  Calls Try.prog 74 #[tmV p t,tmV q t] w fun e w'=>e=.returned (.bool true)∧Below w.heap.size w w':=by
 induction N with
 | zero=>intro t h;omega
 | succ N ih =>
  intro t hN hok p q w hin hin2
  have IH:=Ak ih
  have HNN:=Ak hN
  have HOK:=Ak hok
  have HIN:=Ak hin
  have HIN2:=Ak hin2
  have hlt:=hin.len
  have hfl:=hin.ls.len
  have hlt9:t.kids.length≤9223372036854775807:=by omega
  simp only [Lv.kids] at hfl
  obtain ⟨M,hM⟩:∃ M,t.ls.length=M:=⟨_,rfl⟩
  obtain ⟨K,hK⟩:∃ K,t.kids.length=K:=⟨_,rfl⟩
  have HM:=Ak hM
  have HK:=Ak hK
  rw [hM] at hfl
  rw [hK] at hlt9 hlt
  have hm9:M≤9223372036854775807:=by omega
  clear hM hK hok
  obtain ⟨W,hW⟩:∃ W,W=(w.alloc (tmO p t)).alloc (tmO q t):=⟨_,rfl⟩
  have hb:Below w.heap.size w W:=by rw [hW];exact below_alloc (below_alloc (Below.refl _ _) _) _
  have HX:=Ak (show W.heap[w.heap.size]?=some (tmO p t) by rw [hW];exact box0 w _ _)
  have HY:=Ak (show W.heap[w.heap.size+1]?=some (tmO q t) by rw [hW];exact box1 w _ _)
  have HB:=Ak hb
  clear ih hN hin hin2 hb
  unfold tmV
  unfold tmO at hW
  go_enter Try.func74,Try.ntmps74
  go_upto_region 1 with (fail)
  rw [← hW]
  clear hW
  obtain ⟨p0,p1,p2,p3,p4,p5,p6,p7⟩:=row8 HX.out
  obtain ⟨q0,q1,q2,q3,q4,q5,q6,q7⟩:=row8 HY.out
  rw [HM.out] at p6 q6
  rw [HK.out] at p7 q7
  go_upto_region 3 with (go_at_call 94;go_must (refine (refSame_at p.A q.A p.c q.c _ _ _ t.lv W rfl rfl rfl (tin_all HIN.out HB.out).lv.all (tin_all HIN2.out HB.out).lv.all HOK.out.lv).mono ?_;rintro e w2 ⟨rfl,hb⟩;have HB2:=Ak (below_then HB.out HB.out.size hb);have HX2:=Ak ((hb.block _ (blk_lt HX.out)).trans HX.out);have HY2:=Ak ((hb.block _ (blk_lt HY.out)).trans HY.out);clear p0 p1 p2 p3 p4 p5 p6 p7 q0 q1 q2 q3 q4 q5 q6 q7;obtain ⟨p0,p1,p2,p3,p4,p5,p6,p7⟩:=row8 HX2.out;obtain ⟨q0,q1,q2,q3,q4,q5,q6,q7⟩:=row8 HY2.out;rw [HM.out] at p6 q6;rw [HK.out] at p7 q7;clear hb))
  clear HX HY HB
  go_wp2
  clear p0 p1 p2 p3 p4 p5 p6 p7 q0 q1 q2 q3 q4 q5 q6 q7
  go_loopw [55] (fun i wr=>∃ k:Nat,i=.int .i64 k∧k≤M∧Aside0 (Below w2.heap.size w2 wr)) (fun i _=>M - (intOf i).toNat)
  case atStart=>exact ⟨0,rfl,Nat.zero_le _,⟨Below.refl _ _⟩⟩
  case round =>
   obtain ⟨k,rfl,hk,HBR⟩:=hrel
   by_cases hlk:k<M
   ·obtain ⟨x,hx⟩:∃ x,t.ls[k]?=some x:=⟨_,List.getElem?_eq_getElem (by rw [HM.out];exact hlk)⟩
    have HBA:=Ak (below_then HB2.out HB2.out.size HBR.out)
    obtain ⟨A',c',hcs,hin⟩:=(TmIn.stay HIN.out HBA.out).ls.kid k x hx
    obtain ⟨B',d',hct,hin2⟩:=(TmIn.stay HIN2.out HBA.out).ls.kid k x hx
    obtain ⟨⟨ga,oa,sa⟩,hpB,hga,rfl,d1,d2,d3⟩:=hcs
    obtain ⟨⟨gd,od,sd⟩,hqB,hgd,rfl,f1,f2,f3⟩:=hct
    rw [add_flat] at d1 d2 d3 f1 f2 f3
    have HXI:=Ak hin.all
    have HYI:=Ak hin2.all
    have HSX:=Ak (HOK.out.ls x (List.mem_of_getElem? hx))
    have HXR:=Ak ((HBR.out.block _ (blk_lt HX2.out)).trans HX2.out)
    have HYR:=Ak ((HBR.out.block _ (blk_lt HY2.out)).trans HY2.out)
    have hzr:=HBA.out.size
    have hga:ga<w.heap.size:=hga
    have hgd:gd<w.heap.size:=hgd
    go_upto_region 6 with (fail)
    refine tel_region wr w.heap.size (w.heap.size+1) k p q t t ga oa gd od M x.kind x.num x.kind x.num A' B' x.kids.length c' x.kids.length d' true HXR.out HYR.out hpB hqB HM.out HM.out (by omega) (by omega) hlk hm9
     d1 d2 d3 f1 f2 f3 (fun w9 hb9=>refSame_at A' B' c' d' _ _ _ x w9 rfl rfl rfl (LvIn.stay HXI.out hb9).all (LvIn.stay HYI.out hb9).all HSX.out) ?_
    intro w5 hch
    have HB5:=Ak (below_then HBR.out HBR.out.size (hch.below (fun _ h=>h.elim False.elim False.elim) (Nat.le_refl _)))
    clear hch d1 d2 d3 f1 f2 f3 hpB hqB hga hgd hin hin2 hx
    go_wp2
    go_roundw
    case rel=>exact ⟨k+1,by go_num,by omega,HB5⟩
    case measure=>(simp [intOf];try omega)
   ·obtain rfl:k=M:=by omega
    have hlt':decide ((k:Int)<k)=false:=by simp
    have HX3:=Ak ((HBR.out.block _ (blk_lt HX2.out)).trans HX2.out)
    have HY3:=Ak ((HBR.out.block _ (blk_lt HY2.out)).trans HY2.out)
    have HB3:=Ak (below_then HB2.out HB2.out.size HBR.out)
    obtain ⟨-,-,-,-,-,-,-,p7⟩:=row8 HX3.out
    rw [HK.out] at p7
    clear HBR HX2 HY2 HB2
    obtain ⟨wq,hwq⟩:∃ wq,wq=wr:=⟨_,rfl⟩
    rw [← hwq] at HX3 HY3 HB3 p7 ⊢
    clear hwq
    go_wp2
    clear p7
    go_loopw [74] (fun i wt=>∃ k:Nat,i=.int .i64 k∧k≤K∧Aside0 (Below wq.heap.size wq wt)) (fun i _=>K - (intOf i).toNat)
    case atStart=>exact ⟨0,rfl,Nat.zero_le _,⟨Below.refl _ _⟩⟩
    case round =>
     obtain ⟨j,rfl,hj,HBR⟩:=hrel
     by_cases hlk:j<K
     ·obtain ⟨x,hx⟩:∃ x,t.kids[j]?=some x:=⟨_,List.getElem?_eq_getElem (by rw [HK.out];exact hlk)⟩
      have HBA:=Ak (below_then HB3.out HB3.out.size HBR.out)
      obtain ⟨qq,hqq⟩:=(TmIn.stay HIN.out HBA.out).kid
      obtain ⟨qr,hqr⟩:=(TmIn.stay HIN2.out HBA.out).kid
      obtain ⟨⟨ga,oa,hpK,hga,hca⟩,hxin⟩:=hqq j x hx
      obtain ⟨⟨gd,od,hqK,hgd,hcb⟩,hyin⟩:=hqr j x hx
      have HXI:=Ak (TmS.all hxin)
      have HYI:=Ak (TmS.all hyin)
      have HSX:=Ak (HOK.out.kids x (List.mem_of_getElem? hx))
      have HSL:=Ak (show SizeOf.sizeOf x<SizeOf.sizeOf t from by
       have h1:=List.sizeOf_lt_of_mem (List.mem_of_getElem? hx)
       have h2:SizeOf.sizeOf t.kids<SizeOf.sizeOf t:=by cases t;simp only [Tm.kids,Tm.mk.sizeOf_spec];omega
       omega)
      have HXR:=Ak ((HBR.out.block _ (blk_lt HX3.out)).trans HX3.out)
      have HYR:=Ak ((HBR.out.block _ (blk_lt HY3.out)).trans HY3.out)
      have hzr:=HBA.out.size
      have ca:=fun (j:Nat) (v:Value) (h:(tmC (qq _) x)[j]?=some v)=>hca j v h
      have cb:=fun (j:Nat) (v:Value) (h:(tmC (qr _) x)[j]?=some v)=>hcb j v h
      go_upto_region 12 with (fail)
      refine tek_region wr w.heap.size (w.heap.size+1) j p q t t ga oa gd od K (qq j) (qr j) x x true HXR.out HYR.out hpK hqK HK.out HK.out (by omega) (by omega) hlk hlt9
       (ca 0 _ rfl) (ca 1 _ rfl) (ca 2 _ rfl) (ca 3 _ rfl) (ca 4 _ rfl) (ca 5 _ rfl) (ca 6 _ rfl) (ca 7 _ rfl) (cb 0 _ rfl) (cb 1 _ rfl) (cb 2 _ rfl) (cb 3 _ rfl) (cb 4 _ rfl) (cb 5 _ rfl) (cb 6 _ rfl) (cb 7 _ rfl)
       (fun w9 hb9=>IH.out x (by have:=HSL.out;have:=HNN.out;omega) HSX.out (qq j) (qr j) w9 (tin_all HXI.out hb9) (tin_all HYI.out hb9)) ?_
      intro w5 hch
      have HB5:=Ak (below_then HBR.out HBR.out.size (hch.below (fun _ h=>h.elim False.elim False.elim) (Nat.le_refl _)))
      clear hch hca hcb hxin hyin hpK hqK hga hgd hqq hqr ca cb hx
      go_wp2
      go_roundw
      case rel=>exact ⟨j+1,by go_num,by omega,HB5⟩
      case measure=>(simp [intOf];try omega)
     ·obtain rfl:j=K:=by omega
      have hlt2:decide ((j:Int)<j)=false:=by simp
      have HFN:=Ak (below_then HB3.out HB3.out.size HBR.out)
      go_wp2
      go_ret
      exact ⟨rfl,HFN.out⟩
set_option maxHeartbeats 4000000 in
theorem tEqual_self (t:Tm) (hok:EqOk t) (hgr:okT t) (p q:Pl) (w:World) (hin:TmIn w w.heap.size p t) (hin2:TmIn w w.heap.size q t) :
  Calls Try.prog 46 #[tmV p t,tmV q t] w fun e w'=>e=.returned (.bool true)∧Below w.heap.size w w':=by
 have HOK:=Ak hok
 have HIN:=Ak hin
 have HIN2:=Ak hin2
 obtain ⟨W,hW⟩:∃ W,W=(w.alloc (tmO p t)).alloc (tmO q t):=⟨_,rfl⟩
 have hb:Below w.heap.size w W:=by rw [hW];exact below_alloc (below_alloc (Below.refl _ _) _) _
 have HX:=Ak (show W.heap[w.heap.size]?=some (tmO p t) by rw [hW];exact box0 w _ _)
 have HY:=Ak (show W.heap[w.heap.size+1]?=some (tmO q t) by rw [hW];exact box1 w _ _)
 have HB:=Ak hb
 clear hok hin hin2 hb
 unfold tmV
 unfold tmO at hW
 go_enter Try.func46,Try.ntmps46
 go_upto_region 1 with (fail)
 rw [← hW]
 clear hW
 have HGD:=Ak (show (!decide (okT t))=false by simp [hgr])
 clear hgr
 go_wp2_with (first
  | (refine wpList_load_row rfl 27 _ rfl (w.heap.size) rfl 27 _ (0,0) _ HX.out Try.underlying27 rfl (by kernel_rfl) ?_)
  | (have hgd:=HB1;clear hgd;go_at_call 39;refine (tooGreat_calls t q w1 (tin_all HIN2.out HB1.out)).mono ?_;rintro e w2 ⟨rfl,hb⟩;rw [HGD.out];have HB2:=Ak (below_then HB1.out HB1.out.size hb);have HX2:=Ak ((hb.block _ (blk_lt HX1.out)).trans HX1.out);have HY2:=Ak ((hb.block _ (blk_lt HY1.out)).trans HY1.out);obtain ⟨a0,a1,a2,a3,a4,a5,a6,a7⟩:=row8 HX2.out;obtain ⟨z0,z1,z2,z3,z4,z5,z6,z7⟩:=row8 HY2.out;clear hb)
  | (go_at_call 39;refine (tooGreat_calls t p W (tin_all HIN.out HB.out)).mono ?_;rintro e w1 ⟨rfl,hb⟩;rw [HGD.out];have HB1:=Ak (below_then HB.out HB.out.size hb);have HX1:=Ak ((hb.block _ (blk_lt HX.out)).trans HX.out);have HY1:=Ak ((hb.block _ (blk_lt HY.out)).trans HY.out);obtain ⟨y0,y1,y2,y3,y4,y5,y6,y7⟩:=row8 HY1.out;clear hb)
  | (go_at_call 74;go_must (refine (equal_self _ t (Nat.lt_succ_self _) HOK.out p q w2 (tin_all HIN.out HB2.out) (tin_all HIN2.out HB2.out)).mono ?_;rintro e w3 ⟨rfl,hb⟩;have HB3:=Ak (below_then HB2.out HB2.out.size hb);clear hb)))
 go_ret
 exact ⟨rfl,HB3.out⟩
end Go.Proofs.Ytcgkeolgflphiaa

namespace Go.Proofs.Ytcgkeolgflphiaa
open Go.RowKit Go.Proofs.YtcgkeolgflphiaaW.PrintWords Go.RegionInvYtcgkeolgflphiaa Go.RegionEYtcgkeolgflphiaa
set_option linter.unusedVariables false

def TqOk (t:Tm):Prop:=EqOk t∧okT t
structure DqOk (d:Dc):Prop where
 ty:TqOk d.ty
 val:TqOk d.val
 cs:∀ c∈d.cs,TqOk c.ty

def deq1_ops:List Oper:=[
 { dst:=some 7,op:=Go.Op.fieldAddr 30 (Go.Operand.tmp 2) 0,type:=0,pos:= "ref.go:542",after:=#[],guard:=none },
 { dst:=some 8,op:=Go.Op.load 3 (Go.Operand.tmp 7),type:=3,pos:= "ref.go:542",after:=#[{ on:=0,ground:=Go.Ground.data }],guard:=none },
 { dst:=some 9,op:=Go.Op.fieldAddr 30 (Go.Operand.tmp 3) 0,type:=0,pos:= "ref.go:542",after:=#[],guard:=none },
 { dst:=some 10,op:=Go.Op.load 3 (Go.Operand.tmp 9),type:=3,pos:= "ref.go:542",after:=#[{ on:=2,ground:=Go.Ground.data }],guard:=none },
 { dst:=some 11,op:=Go.Op.binOp Go.BinOp.neq 3 (Go.Operand.tmp 8) (Go.Operand.tmp 10) 3,type:=4,pos:= "ref.go:542",after:=#[{ on:=1,ground:=Go.Ground.data },{ on:=3,ground:=Go.Ground.data }],guard:=none },
 { dst:=some 12,op:=Go.Op.move (Go.Operand.tmp 11),type:=4,pos:= "ref.go:542",after:=#[{ on:=4,ground:=Go.Ground.data }],guard:=none },
 { dst:=some 13,op:=Go.Op.fieldAddr 30 (Go.Operand.tmp 2) 1,type:=0,pos:= "ref.go:542",after:=#[{ on:=5,ground:=Go.Ground.guard }],guard:=some (5,false) },
 { dst:=some 14,op:=Go.Op.load 9 (Go.Operand.tmp 13),type:=9,pos:= "ref.go:542",after:=#[{ on:=6,ground:=Go.Ground.data },{ on:=5,ground:=Go.Ground.guard }],guard:=some (5,false) },
 { dst:=some 15,op:=Go.Op.fieldAddr 30 (Go.Operand.tmp 3) 1,type:=0,pos:= "ref.go:542",after:=#[{ on:=5,ground:=Go.Ground.guard }],guard:=some (5,false) },
 { dst:=some 16,op:=Go.Op.load 9 (Go.Operand.tmp 15),type:=9,pos:= "ref.go:542",after:=#[{ on:=8,ground:=Go.Ground.data },{ on:=5,ground:=Go.Ground.guard }],guard:=some (5,false) },
 { dst:=some 17,op:=Go.Op.binOp Go.BinOp.neq 9 (Go.Operand.tmp 14) (Go.Operand.tmp 16) 9,type:=4,pos:= "ref.go:542",after:=#[{ on:=7,ground:=Go.Ground.data },{ on:=9,ground:=Go.Ground.data },{ on:=5,ground:=Go.Ground.guard }],guard:=some (5,false) },
 { dst:=some 18,op:=Go.Op.pick (Go.Operand.tmp 12) (Go.Operand.const (Go.Value.bool true)) (Go.Operand.tmp 17),type:=4,pos:= "ref.go:542",after:=#[{ on:=5,ground:=Go.Ground.data },{ on:=10,ground:=Go.Ground.data }],guard:=none },
 { dst:=some 19,op:=Go.Op.move (Go.Operand.tmp 18),type:=4,pos:= "ref.go:542",after:=#[{ on:=11,ground:=Go.Ground.data },{ on:=5,ground:=Go.Ground.chain }],guard:=none },
 { dst:=some 20,op:=Go.Op.fieldAddr 30 (Go.Operand.tmp 2) 2,type:=0,pos:= "ref.go:542",after:=#[{ on:=12,ground:=Go.Ground.guard }],guard:=some (12,false) },
 { dst:=some 21,op:=Go.Op.load 3 (Go.Operand.tmp 20),type:=3,pos:= "ref.go:542",after:=#[{ on:=13,ground:=Go.Ground.data },{ on:=12,ground:=Go.Ground.guard }],guard:=some (12,false) },
 { dst:=some 22,op:=Go.Op.fieldAddr 30 (Go.Operand.tmp 3) 2,type:=0,pos:= "ref.go:542",after:=#[{ on:=12,ground:=Go.Ground.guard }],guard:=some (12,false) },
 { dst:=some 23,op:=Go.Op.load 3 (Go.Operand.tmp 22),type:=3,pos:= "ref.go:542",after:=#[{ on:=15,ground:=Go.Ground.data },{ on:=12,ground:=Go.Ground.guard }],guard:=some (12,false) },
 { dst:=some 24,op:=Go.Op.binOp Go.BinOp.neq 3 (Go.Operand.tmp 21) (Go.Operand.tmp 23) 3,type:=4,pos:= "ref.go:542",after:=#[{ on:=14,ground:=Go.Ground.data },{ on:=16,ground:=Go.Ground.data },{ on:=12,ground:=Go.Ground.guard }],guard:=some (12,false) },
 { dst:=some 25,op:=Go.Op.pick (Go.Operand.tmp 19) (Go.Operand.const (Go.Value.bool true)) (Go.Operand.tmp 24),type:=4,pos:= "ref.go:542",after:=#[{ on:=12,ground:=Go.Ground.data },{ on:=17,ground:=Go.Ground.data }],guard:=none },
 { dst:=some 26,op:=Go.Op.move (Go.Operand.tmp 25),type:=4,pos:= "ref.go:542",after:=#[{ on:=18,ground:=Go.Ground.data },{ on:=12,ground:=Go.Ground.chain }],guard:=none },
 { dst:=some 27,op:=Go.Op.fieldAddr 30 (Go.Operand.tmp 2) 5,type:=0,pos:= "ref.go:542",after:=#[{ on:=19,ground:=Go.Ground.guard }],guard:=some (19,false) },
 { dst:=some 28,op:=Go.Op.load 3 (Go.Operand.tmp 27),type:=3,pos:= "ref.go:542",after:=#[{ on:=20,ground:=Go.Ground.data },{ on:=19,ground:=Go.Ground.guard }],guard:=some (19,false) },
 { dst:=some 29,op:=Go.Op.fieldAddr 30 (Go.Operand.tmp 3) 5,type:=0,pos:= "ref.go:542",after:=#[{ on:=19,ground:=Go.Ground.guard }],guard:=some (19,false) },
 { dst:=some 30,op:=Go.Op.load 3 (Go.Operand.tmp 29),type:=3,pos:= "ref.go:542",after:=#[{ on:=22,ground:=Go.Ground.data },{ on:=19,ground:=Go.Ground.guard }],guard:=some (19,false) },
 { dst:=some 31,op:=Go.Op.binOp Go.BinOp.neq 3 (Go.Operand.tmp 28) (Go.Operand.tmp 30) 3,type:=4,pos:= "ref.go:542",after:=#[{ on:=21,ground:=Go.Ground.data },{ on:=23,ground:=Go.Ground.data },{ on:=19,ground:=Go.Ground.guard }],guard:=some (19,false) },
 { dst:=some 32,op:=Go.Op.pick (Go.Operand.tmp 26) (Go.Operand.const (Go.Value.bool true)) (Go.Operand.tmp 31),type:=4,pos:= "ref.go:542",after:=#[{ on:=19,ground:=Go.Ground.data },{ on:=24,ground:=Go.Ground.data }],guard:=none },
 { dst:=some 33,op:=Go.Op.move (Go.Operand.tmp 32),type:=4,pos:= "ref.go:542",after:=#[{ on:=25,ground:=Go.Ground.data },{ on:=19,ground:=Go.Ground.chain }],guard:=none },
 { dst:=some 34,op:=Go.Op.fieldAddr 30 (Go.Operand.tmp 2) 3,type:=0,pos:= "ref.go:542",after:=#[{ on:=26,ground:=Go.Ground.guard }],guard:=some (26,false) },
 { dst:=some 35,op:=Go.Op.load 27 (Go.Operand.tmp 34),type:=27,pos:= "ref.go:542",after:=#[{ on:=27,ground:=Go.Ground.data },{ on:=26,ground:=Go.Ground.guard }],guard:=some (26,false) },
 { dst:=some 36,op:=Go.Op.fieldAddr 30 (Go.Operand.tmp 3) 3,type:=0,pos:= "ref.go:542",after:=#[{ on:=26,ground:=Go.Ground.guard }],guard:=some (26,false) },
 { dst:=some 37,op:=Go.Op.load 27 (Go.Operand.tmp 36),type:=27,pos:= "ref.go:542",after:=#[{ on:=29,ground:=Go.Ground.data },{ on:=26,ground:=Go.Ground.guard }],guard:=some (26,false) },
 { dst:=some 38,op:=Go.Op.call { callee:=Go.Callee.value (Go.Operand.func 46),args:=#[Go.Operand.tmp 35,Go.Operand.tmp 37],argTypes:=#[27,27] },type:=4,pos:= "ref.go:542",after:=#[{ on:=28,ground:=Go.Ground.data },{ on:=30,ground:=Go.Ground.data },{ on:=26,ground:=Go.Ground.chain },{ on:=26,ground:=Go.Ground.guard }],guard:=some (26,false) },
 { dst:=some 39,op:=Go.Op.unOp Go.UnOp.not 4 (Go.Operand.tmp 38),type:=4,pos:= "ref.go:542",after:=#[{ on:=31,ground:=Go.Ground.data },{ on:=26,ground:=Go.Ground.guard }],guard:=some (26,false) },
 { dst:=some 40,op:=Go.Op.pick (Go.Operand.tmp 33) (Go.Operand.const (Go.Value.bool true)) (Go.Operand.tmp 39),type:=4,pos:= "ref.go:542",after:=#[{ on:=26,ground:=Go.Ground.data },{ on:=32,ground:=Go.Ground.data }],guard:=none },
 { dst:=some 41,op:=Go.Op.move (Go.Operand.tmp 40),type:=4,pos:= "ref.go:542",after:=#[{ on:=33,ground:=Go.Ground.data },{ on:=31,ground:=Go.Ground.chain }],guard:=none },
 { dst:=some 42,op:=Go.Op.fieldAddr 30 (Go.Operand.tmp 2) 4,type:=0,pos:= "ref.go:542",after:=#[{ on:=34,ground:=Go.Ground.guard }],guard:=some (34,false) },
 { dst:=some 43,op:=Go.Op.load 27 (Go.Operand.tmp 42),type:=27,pos:= "ref.go:542",after:=#[{ on:=35,ground:=Go.Ground.data },{ on:=34,ground:=Go.Ground.guard }],guard:=some (34,false) },
 { dst:=some 44,op:=Go.Op.fieldAddr 30 (Go.Operand.tmp 3) 4,type:=0,pos:= "ref.go:542",after:=#[{ on:=34,ground:=Go.Ground.guard }],guard:=some (34,false) },
 { dst:=some 45,op:=Go.Op.load 27 (Go.Operand.tmp 44),type:=27,pos:= "ref.go:542",after:=#[{ on:=37,ground:=Go.Ground.data },{ on:=34,ground:=Go.Ground.guard }],guard:=some (34,false) },
 { dst:=some 46,op:=Go.Op.call { callee:=Go.Callee.value (Go.Operand.func 46),args:=#[Go.Operand.tmp 43,Go.Operand.tmp 45],argTypes:=#[27,27] },type:=4,pos:= "ref.go:542",after:=#[{ on:=36,ground:=Go.Ground.data },{ on:=38,ground:=Go.Ground.data },{ on:=34,ground:=Go.Ground.chain },{ on:=34,ground:=Go.Ground.guard }],guard:=some (34,false) },
 { dst:=some 47,op:=Go.Op.unOp Go.UnOp.not 4 (Go.Operand.tmp 46),type:=4,pos:= "ref.go:542",after:=#[{ on:=39,ground:=Go.Ground.data },{ on:=34,ground:=Go.Ground.guard }],guard:=some (34,false) },
 { dst:=some 48,op:=Go.Op.pick (Go.Operand.tmp 41) (Go.Operand.const (Go.Value.bool true)) (Go.Operand.tmp 47),type:=4,pos:= "ref.go:542",after:=#[{ on:=34,ground:=Go.Ground.data },{ on:=40,ground:=Go.Ground.data }],guard:=none },
 { dst:=some 49,op:=Go.Op.move (Go.Operand.tmp 48),type:=4,pos:= "ref.go:542",after:=#[{ on:=41,ground:=Go.Ground.data },{ on:=39,ground:=Go.Ground.chain }],guard:=none },
 { dst:=some 50,op:=Go.Op.fieldAddr 30 (Go.Operand.tmp 2) 6,type:=0,pos:= "ref.go:542",after:=#[{ on:=42,ground:=Go.Ground.guard }],guard:=some (42,false) },
 { dst:=some 51,op:=Go.Op.load 28 (Go.Operand.tmp 50),type:=28,pos:= "ref.go:542",after:=#[{ on:=43,ground:=Go.Ground.data },{ on:=42,ground:=Go.Ground.guard }],guard:=some (42,false) },
 { dst:=some 52,op:=Go.Op.call { callee:=Go.Callee.builtin Go.Builtin.len,args:=#[Go.Operand.tmp 51],argTypes:=#[28] },type:=3,pos:= "ref.go:542",after:=#[{ on:=44,ground:=Go.Ground.data },{ on:=42,ground:=Go.Ground.guard }],guard:=some (42,false) },
 { dst:=some 53,op:=Go.Op.fieldAddr 30 (Go.Operand.tmp 3) 6,type:=0,pos:= "ref.go:542",after:=#[{ on:=42,ground:=Go.Ground.guard }],guard:=some (42,false) },
 { dst:=some 54,op:=Go.Op.load 28 (Go.Operand.tmp 53),type:=28,pos:= "ref.go:542",after:=#[{ on:=46,ground:=Go.Ground.data },{ on:=42,ground:=Go.Ground.guard }],guard:=some (42,false) },
 { dst:=some 55,op:=Go.Op.call { callee:=Go.Callee.builtin Go.Builtin.len,args:=#[Go.Operand.tmp 54],argTypes:=#[28] },type:=3,pos:= "ref.go:542",after:=#[{ on:=47,ground:=Go.Ground.data },{ on:=42,ground:=Go.Ground.guard }],guard:=some (42,false) },
 { dst:=some 56,op:=Go.Op.binOp Go.BinOp.neq 3 (Go.Operand.tmp 52) (Go.Operand.tmp 55) 3,type:=4,pos:= "ref.go:542",after:=#[{ on:=45,ground:=Go.Ground.data },{ on:=48,ground:=Go.Ground.data },{ on:=42,ground:=Go.Ground.guard }],guard:=some (42,false) },
 { dst:=some 57,op:=Go.Op.pick (Go.Operand.tmp 49) (Go.Operand.const (Go.Value.bool true)) (Go.Operand.tmp 56),type:=4,pos:= "ref.go:542",after:=#[{ on:=42,ground:=Go.Ground.data },{ on:=49,ground:=Go.Ground.data }],guard:=none }]
def deq1_F (w0:World) (g g':Nat) (d:Dc) (P P2:DPl):Nat→(Nat→Value)→Value→World→(Nat→Prop)→Prop:=fun rix=>match rix with
 | 0=>fun _ v _ _=>v=.pointer (some ⟨g,0,none⟩)
 | 1=>fun _ v _ _=>v=.int .i64 d.kind
 | 2=>fun _ v _ _=>v=.pointer (some ⟨g',0,none⟩)
 | 3=>fun _ v _ _=>v=.int .i64 d.kind
 | 4=>fun _ v _ _=>v=.bool false
 | 5=>fun _ v _ _=>v=.bool false
 | 6=>fun _ v _ _=>v=.pointer (some ⟨g,1,none⟩)
 | 7=>fun _ v _ _=>v=.string d.nm
 | 8=>fun _ v _ _=>v=.pointer (some ⟨g',1,none⟩)
 | 9=>fun _ v _ _=>v=.string d.nm
 | 10=>fun _ v _ _=>v=.bool false
 | 11=>fun _ v _ _=>v=.bool false
 | 12=>fun _ v _ _=>v=.bool false
 | 13=>fun _ v _ _=>v=.pointer (some ⟨g,2,none⟩)
 | 14=>fun _ v _ _=>v=.int .i64 d.vars
 | 15=>fun _ v _ _=>v=.pointer (some ⟨g',2,none⟩)
 | 16=>fun _ v _ _=>v=.int .i64 d.vars
 | 17=>fun _ v _ _=>v=.bool false
 | 18=>fun _ v _ _=>v=.bool false
 | 19=>fun _ v _ _=>v=.bool false
 | 20=>fun _ v _ _=>v=.pointer (some ⟨g,19,none⟩)
 | 21=>fun _ v _ _=>v=.int .i64 d.params
 | 22=>fun _ v _ _=>v=.pointer (some ⟨g',19,none⟩)
 | 23=>fun _ v _ _=>v=.int .i64 d.params
 | 24=>fun _ v _ _=>v=.bool false
 | 25=>fun _ v _ _=>v=.bool false
 | 26=>fun _ v _ _=>v=.bool false
 | 27=>fun _ v _ _=>v=.pointer (some ⟨g,3,none⟩)
 | 28=>fun _ v _ _=>v=tmV P.pt d.ty
 | 29=>fun _ v _ _=>v=.pointer (some ⟨g',3,none⟩)
 | 30=>fun _ v _ _=>v=tmV P2.pt d.ty
 | 31=>fun _ v _ _=>v=.bool true
 | 32=>fun _ v _ _=>v=.bool false
 | 33=>fun _ v _ _=>v=.bool false
 | 34=>fun _ v _ _=>v=.bool false
 | 35=>fun _ v _ _=>v=.pointer (some ⟨g,11,none⟩)
 | 36=>fun _ v _ _=>v=tmV P.pv d.val
 | 37=>fun _ v _ _=>v=.pointer (some ⟨g',11,none⟩)
 | 38=>fun _ v _ _=>v=tmV P2.pv d.val
 | 39=>fun _ v _ _=>v=.bool true
 | 40=>fun _ v _ _=>v=.bool false
 | 41=>fun _ v _ _=>v=.bool false
 | 42=>fun _ v _ _=>v=.bool false
 | 43=>fun _ v _ _=>v=.pointer (some ⟨g,20,none⟩)
 | 44=>fun _ v _ _=>v=.slice P.C d.cs.length P.e
 | 45=>fun _ v _ _=>v=.int .i64 d.cs.length
 | 46=>fun _ v _ _=>v=.pointer (some ⟨g',20,none⟩)
 | 47=>fun _ v _ _=>v=.slice P2.C d.cs.length P2.e
 | 48=>fun _ v _ _=>v=.int .i64 d.cs.length
 | 49=>fun _ v _ _=>v=.bool false
 | 50=>fun _ v _ _=>v=.bool false
 | _=>fun _ _ _ _=>True
def deq1_C:Nat→List Nat:=fun rix=>match rix with
 | _=>[]
theorem deq1_nw2:nwB deq1_ops.toArray 2=true:=by kernel_rfl
theorem deq1_nw3:nwB deq1_ops.toArray 3=true:=by kernel_rfl
set_option maxRecDepth 100000 in
set_option maxHeartbeats 8000000 in
theorem deq1_obs (w0:World) (g g':Nat) (d:Dc) (P P2:DPl) (hX:w0.heap[g]?=some (dcO P d)) (hY:w0.heap[g']?=some (dcO P2 d)) (hin:DcIn w0 w0.heap.size P d) (hin2:DcIn w0 w0.heap.size P2 d) (hok:DqOk d) (Q:Exit→Act→World→Prop) (a0:Act) (hi2:a0.tmps.getD 2 undef=.pointer (some ⟨g,0,none⟩)) (hi3:a0.tmps.getD 3 undef=.pointer (some ⟨g',0,none⟩)) :
  ObsE Try.prog deq1_ops.toArray Q (est2 0 0 (fun _=>False) (fun _=>False)) deq1_C (deq1_F w0 g g' d P P2) a0 w0 deq1_ops.toArray.toList 0:=by
 have nw2:=deq1_nw2
 have nw3:=deq1_nw3
 refine ⟨?_,?_,?_,?_,?_,?_,?_,?_,?_,?_,?_,?_,?_,?_,?_,?_,?_,?_,?_,?_,?_,?_,?_,?_,?_,?_,?_,?_,?_,?_,?_,?_,?_,?_,?_,?_,?_,?_,?_,?_,?_,?_,?_,?_,?_,?_,?_,?_,?_,?_,?_,trivial⟩
 ·refine ⟨⟨fun τ=>stableE_det _,leans_not⟩,?_⟩
  intro a w O hk
  have e2:a.eval (.tmp 2)=.pointer (some ⟨g,0,none⟩):=(hk.init 2 (initialB_of_nw nw2)).trans hi2
  exact obE_run (wanted_none rfl) (by unfold execOp;simp only [];rw [e2];go_simp) rfl
 ·refine ⟨⟨fun τ=>stableE_det _,leans_not⟩,?_⟩
  intro a w O hk
  have e7:a.eval (.tmp 7)=.pointer (some ⟨g,0,none⟩):=hk.fact 0 _ 7 rfl rfl rfl rfl
  have zz:=hk.world.still hX (fun ⟨_,h⟩=>h.elim And.right And.right)
  obtain ⟨c0,c1,c2,c3,c4,c5,c6,c7,c8,c9,c10,c11,c12,c13,c14,c15,c16,c17,c18,c19,c20⟩:=row21 zz
  exact obE_run (wanted_none rfl) (by unfold execOp;simp only [];rw [e7];go_simp) rfl
 ·refine ⟨⟨fun τ=>stableE_det _,leans_not⟩,?_⟩
  intro a w O hk
  have e3:a.eval (.tmp 3)=.pointer (some ⟨g',0,none⟩):=(hk.init 3 (initialB_of_nw nw3)).trans hi3
  exact obE_run (wanted_none rfl) (by unfold execOp;simp only [];rw [e3];go_simp) rfl
 ·refine ⟨⟨fun τ=>stableE_det _,leans_not⟩,?_⟩
  intro a w O hk
  have e9:a.eval (.tmp 9)=.pointer (some ⟨g',0,none⟩):=hk.fact 2 _ 9 rfl rfl rfl rfl
  have zz:=hk.world.still hY (fun ⟨_,h⟩=>h.elim And.right And.right)
  obtain ⟨c0,c1,c2,c3,c4,c5,c6,c7,c8,c9,c10,c11,c12,c13,c14,c15,c16,c17,c18,c19,c20⟩:=row21 zz
  exact obE_run (wanted_none rfl) (by unfold execOp;simp only [];rw [e9];go_simp) rfl
 ·refine ⟨⟨fun τ=>stableE_det _,leans_not⟩,?_⟩
  intro a w O hk
  have e8:a.eval (.tmp 8)=.int .i64 d.kind:=hk.fact 1 _ 8 rfl rfl rfl rfl
  have e10:a.eval (.tmp 10)=.int .i64 d.kind:=hk.fact 3 _ 10 rfl rfl rfl rfl
  exact toE (ob_neqInt false rfl e8 e10 (by simp) (wanted_none rfl) rfl)
 ·refine ⟨⟨fun τ=>stableE_det _,leans_not⟩,?_⟩
  intro a w O hk
  have e11:a.eval (.tmp 11)=.bool false:=hk.fact 4 _ 11 rfl rfl rfl rfl
  exact toE (ob_move rfl e11 (wanted_none rfl) rfl)
 ·refine ⟨⟨fun τ=>stableE_det _,leans_not⟩,?_⟩
  intro a w O hk
  have e2:a.eval (.tmp 2)=.pointer (some ⟨g,0,none⟩):=(hk.init 2 (initialB_of_nw nw2)).trans hi2
  have e12:a.eval (.tmp 12)=.bool false:=hk.fact 5 _ 12 rfl rfl rfl rfl
  exact obE_run (wanted_of rfl rfl rfl e12) (by unfold execOp;simp only [];rw [e2];go_simp) rfl
 ·refine ⟨⟨fun τ=>stableE_det _,leans_not⟩,?_⟩
  intro a w O hk
  have e13:a.eval (.tmp 13)=.pointer (some ⟨g,1,none⟩):=hk.fact 6 _ 13 rfl rfl rfl rfl
  have e12:a.eval (.tmp 12)=.bool false:=hk.fact 5 _ 12 rfl rfl rfl rfl
  have zz:=hk.world.still hX (fun ⟨_,h⟩=>h.elim And.right And.right)
  obtain ⟨c0,c1,c2,c3,c4,c5,c6,c7,c8,c9,c10,c11,c12,c13,c14,c15,c16,c17,c18,c19,c20⟩:=row21 zz
  exact obE_run (wanted_of rfl rfl rfl e12) (by unfold execOp;simp only [];rw [e13];go_simp) rfl
 ·refine ⟨⟨fun τ=>stableE_det _,leans_not⟩,?_⟩
  intro a w O hk
  have e3:a.eval (.tmp 3)=.pointer (some ⟨g',0,none⟩):=(hk.init 3 (initialB_of_nw nw3)).trans hi3
  have e12:a.eval (.tmp 12)=.bool false:=hk.fact 5 _ 12 rfl rfl rfl rfl
  exact obE_run (wanted_of rfl rfl rfl e12) (by unfold execOp;simp only [];rw [e3];go_simp) rfl
 ·refine ⟨⟨fun τ=>stableE_det _,leans_not⟩,?_⟩
  intro a w O hk
  have e15:a.eval (.tmp 15)=.pointer (some ⟨g',1,none⟩):=hk.fact 8 _ 15 rfl rfl rfl rfl
  have e12:a.eval (.tmp 12)=.bool false:=hk.fact 5 _ 12 rfl rfl rfl rfl
  have zz:=hk.world.still hY (fun ⟨_,h⟩=>h.elim And.right And.right)
  obtain ⟨c0,c1,c2,c3,c4,c5,c6,c7,c8,c9,c10,c11,c12,c13,c14,c15,c16,c17,c18,c19,c20⟩:=row21 zz
  exact obE_run (wanted_of rfl rfl rfl e12) (by unfold execOp;simp only [];rw [e15];go_simp) rfl
 ·refine ⟨⟨fun τ=>stableE_det _,leans_not⟩,?_⟩
  intro a w O hk
  have e14:a.eval (.tmp 14)=.string d.nm:=hk.fact 7 _ 14 rfl rfl rfl rfl
  have e16:a.eval (.tmp 16)=.string d.nm:=hk.fact 9 _ 16 rfl rfl rfl rfl
  have e12:a.eval (.tmp 12)=.bool false:=hk.fact 5 _ 12 rfl rfl rfl rfl
  exact obE_run (wanted_of rfl rfl rfl e12) (by unfold execOp;simp only [];rw [e14,e16];go_simp) rfl
 ·refine ⟨⟨fun τ=>stableE_det _,leans_not⟩,?_⟩
  intro a w O hk
  have e12:a.eval (.tmp 12)=.bool false:=hk.fact 5 _ 12 rfl rfl rfl rfl
  have e17:a.eval (.tmp 17)=.bool false:=hk.fact 10 _ 17 rfl rfl rfl rfl
  exact toE (ob_pick rfl e12 e17 (wanted_none rfl) rfl)
 ·refine ⟨⟨fun τ=>stableE_det _,leans_not⟩,?_⟩
  intro a w O hk
  have e18:a.eval (.tmp 18)=.bool false:=hk.fact 11 _ 18 rfl rfl rfl rfl
  exact toE (ob_move rfl e18 (wanted_none rfl) rfl)
 ·refine ⟨⟨fun τ=>stableE_det _,leans_not⟩,?_⟩
  intro a w O hk
  have e2:a.eval (.tmp 2)=.pointer (some ⟨g,0,none⟩):=(hk.init 2 (initialB_of_nw nw2)).trans hi2
  have e19:a.eval (.tmp 19)=.bool false:=hk.fact 12 _ 19 rfl rfl rfl rfl
  exact obE_run (wanted_of rfl rfl rfl e19) (by unfold execOp;simp only [];rw [e2];go_simp) rfl
 ·refine ⟨⟨fun τ=>stableE_det _,leans_not⟩,?_⟩
  intro a w O hk
  have e20:a.eval (.tmp 20)=.pointer (some ⟨g,2,none⟩):=hk.fact 13 _ 20 rfl rfl rfl rfl
  have e19:a.eval (.tmp 19)=.bool false:=hk.fact 12 _ 19 rfl rfl rfl rfl
  have zz:=hk.world.still hX (fun ⟨_,h⟩=>h.elim And.right And.right)
  obtain ⟨c0,c1,c2,c3,c4,c5,c6,c7,c8,c9,c10,c11,c12,c13,c14,c15,c16,c17,c18,c19,c20⟩:=row21 zz
  exact obE_run (wanted_of rfl rfl rfl e19) (by unfold execOp;simp only [];rw [e20];go_simp) rfl
 ·refine ⟨⟨fun τ=>stableE_det _,leans_not⟩,?_⟩
  intro a w O hk
  have e3:a.eval (.tmp 3)=.pointer (some ⟨g',0,none⟩):=(hk.init 3 (initialB_of_nw nw3)).trans hi3
  have e19:a.eval (.tmp 19)=.bool false:=hk.fact 12 _ 19 rfl rfl rfl rfl
  exact obE_run (wanted_of rfl rfl rfl e19) (by unfold execOp;simp only [];rw [e3];go_simp) rfl
 ·refine ⟨⟨fun τ=>stableE_det _,leans_not⟩,?_⟩
  intro a w O hk
  have e22:a.eval (.tmp 22)=.pointer (some ⟨g',2,none⟩):=hk.fact 15 _ 22 rfl rfl rfl rfl
  have e19:a.eval (.tmp 19)=.bool false:=hk.fact 12 _ 19 rfl rfl rfl rfl
  have zz:=hk.world.still hY (fun ⟨_,h⟩=>h.elim And.right And.right)
  obtain ⟨c0,c1,c2,c3,c4,c5,c6,c7,c8,c9,c10,c11,c12,c13,c14,c15,c16,c17,c18,c19,c20⟩:=row21 zz
  exact obE_run (wanted_of rfl rfl rfl e19) (by unfold execOp;simp only [];rw [e22];go_simp) rfl
 ·refine ⟨⟨fun τ=>stableE_det _,leans_not⟩,?_⟩
  intro a w O hk
  have e21:a.eval (.tmp 21)=.int .i64 d.vars:=hk.fact 14 _ 21 rfl rfl rfl rfl
  have e23:a.eval (.tmp 23)=.int .i64 d.vars:=hk.fact 16 _ 23 rfl rfl rfl rfl
  have e19:a.eval (.tmp 19)=.bool false:=hk.fact 12 _ 19 rfl rfl rfl rfl
  exact toE (ob_neqInt false rfl e21 e23 (by simp) (wanted_of rfl rfl rfl e19) rfl)
 ·refine ⟨⟨fun τ=>stableE_det _,leans_not⟩,?_⟩
  intro a w O hk
  have e19:a.eval (.tmp 19)=.bool false:=hk.fact 12 _ 19 rfl rfl rfl rfl
  have e24:a.eval (.tmp 24)=.bool false:=hk.fact 17 _ 24 rfl rfl rfl rfl
  exact toE (ob_pick rfl e19 e24 (wanted_none rfl) rfl)
 ·refine ⟨⟨fun τ=>stableE_det _,leans_not⟩,?_⟩
  intro a w O hk
  have e25:a.eval (.tmp 25)=.bool false:=hk.fact 18 _ 25 rfl rfl rfl rfl
  exact toE (ob_move rfl e25 (wanted_none rfl) rfl)
 ·refine ⟨⟨fun τ=>stableE_det _,leans_not⟩,?_⟩
  intro a w O hk
  have e2:a.eval (.tmp 2)=.pointer (some ⟨g,0,none⟩):=(hk.init 2 (initialB_of_nw nw2)).trans hi2
  have e26:a.eval (.tmp 26)=.bool false:=hk.fact 19 _ 26 rfl rfl rfl rfl
  exact obE_run (wanted_of rfl rfl rfl e26) (by unfold execOp;simp only [];rw [e2];go_simp) rfl
 ·refine ⟨⟨fun τ=>stableE_det _,leans_not⟩,?_⟩
  intro a w O hk
  have e27:a.eval (.tmp 27)=.pointer (some ⟨g,19,none⟩):=hk.fact 20 _ 27 rfl rfl rfl rfl
  have e26:a.eval (.tmp 26)=.bool false:=hk.fact 19 _ 26 rfl rfl rfl rfl
  have zz:=hk.world.still hX (fun ⟨_,h⟩=>h.elim And.right And.right)
  obtain ⟨c0,c1,c2,c3,c4,c5,c6,c7,c8,c9,c10,c11,c12,c13,c14,c15,c16,c17,c18,c19,c20⟩:=row21 zz
  exact obE_run (wanted_of rfl rfl rfl e26) (by unfold execOp;simp only [];rw [e27];go_simp) rfl
 ·refine ⟨⟨fun τ=>stableE_det _,leans_not⟩,?_⟩
  intro a w O hk
  have e3:a.eval (.tmp 3)=.pointer (some ⟨g',0,none⟩):=(hk.init 3 (initialB_of_nw nw3)).trans hi3
  have e26:a.eval (.tmp 26)=.bool false:=hk.fact 19 _ 26 rfl rfl rfl rfl
  exact obE_run (wanted_of rfl rfl rfl e26) (by unfold execOp;simp only [];rw [e3];go_simp) rfl
 ·refine ⟨⟨fun τ=>stableE_det _,leans_not⟩,?_⟩
  intro a w O hk
  have e29:a.eval (.tmp 29)=.pointer (some ⟨g',19,none⟩):=hk.fact 22 _ 29 rfl rfl rfl rfl
  have e26:a.eval (.tmp 26)=.bool false:=hk.fact 19 _ 26 rfl rfl rfl rfl
  have zz:=hk.world.still hY (fun ⟨_,h⟩=>h.elim And.right And.right)
  obtain ⟨c0,c1,c2,c3,c4,c5,c6,c7,c8,c9,c10,c11,c12,c13,c14,c15,c16,c17,c18,c19,c20⟩:=row21 zz
  exact obE_run (wanted_of rfl rfl rfl e26) (by unfold execOp;simp only [];rw [e29];go_simp) rfl
 ·refine ⟨⟨fun τ=>stableE_det _,leans_not⟩,?_⟩
  intro a w O hk
  have e28:a.eval (.tmp 28)=.int .i64 d.params:=hk.fact 21 _ 28 rfl rfl rfl rfl
  have e30:a.eval (.tmp 30)=.int .i64 d.params:=hk.fact 23 _ 30 rfl rfl rfl rfl
  have e26:a.eval (.tmp 26)=.bool false:=hk.fact 19 _ 26 rfl rfl rfl rfl
  exact toE (ob_neqInt false rfl e28 e30 (by simp) (wanted_of rfl rfl rfl e26) rfl)
 ·refine ⟨⟨fun τ=>stableE_det _,leans_not⟩,?_⟩
  intro a w O hk
  have e26:a.eval (.tmp 26)=.bool false:=hk.fact 19 _ 26 rfl rfl rfl rfl
  have e31:a.eval (.tmp 31)=.bool false:=hk.fact 24 _ 31 rfl rfl rfl rfl
  exact toE (ob_pick rfl e26 e31 (wanted_none rfl) rfl)
 ·refine ⟨⟨fun τ=>stableE_det _,leans_not⟩,?_⟩
  intro a w O hk
  have e32:a.eval (.tmp 32)=.bool false:=hk.fact 25 _ 32 rfl rfl rfl rfl
  exact toE (ob_move rfl e32 (wanted_none rfl) rfl)
 ·refine ⟨⟨fun τ=>stableE_det _,leans_not⟩,?_⟩
  intro a w O hk
  have e2:a.eval (.tmp 2)=.pointer (some ⟨g,0,none⟩):=(hk.init 2 (initialB_of_nw nw2)).trans hi2
  have e33:a.eval (.tmp 33)=.bool false:=hk.fact 26 _ 33 rfl rfl rfl rfl
  exact obE_run (wanted_of rfl rfl rfl e33) (by unfold execOp;simp only [];rw [e2];go_simp) rfl
 ·refine ⟨⟨fun τ=>stableE_det _,leans_not⟩,?_⟩
  intro a w O hk
  have e34:a.eval (.tmp 34)=.pointer (some ⟨g,3,none⟩):=hk.fact 27 _ 34 rfl rfl rfl rfl
  have e33:a.eval (.tmp 33)=.bool false:=hk.fact 26 _ 33 rfl rfl rfl rfl
  have zz:=hk.world.still hX (fun ⟨_,h⟩=>h.elim And.right And.right)
  obtain ⟨c0,c1,c2,c3,c4,c5,c6,c7,c8,c9,c10,c11,c12,c13,c14,c15,c16,c17,c18,c19,c20⟩:=row21 zz
  exact obE_run (wanted_of rfl rfl rfl e33) (by unfold execOp;simp only [];rw [e34];unfold tmV;go_simp) rfl
 ·refine ⟨⟨fun τ=>stableE_det _,leans_not⟩,?_⟩
  intro a w O hk
  have e3:a.eval (.tmp 3)=.pointer (some ⟨g',0,none⟩):=(hk.init 3 (initialB_of_nw nw3)).trans hi3
  have e33:a.eval (.tmp 33)=.bool false:=hk.fact 26 _ 33 rfl rfl rfl rfl
  exact obE_run (wanted_of rfl rfl rfl e33) (by unfold execOp;simp only [];rw [e3];go_simp) rfl
 ·refine ⟨⟨fun τ=>stableE_det _,leans_not⟩,?_⟩
  intro a w O hk
  have e36:a.eval (.tmp 36)=.pointer (some ⟨g',3,none⟩):=hk.fact 29 _ 36 rfl rfl rfl rfl
  have e33:a.eval (.tmp 33)=.bool false:=hk.fact 26 _ 33 rfl rfl rfl rfl
  have zz:=hk.world.still hY (fun ⟨_,h⟩=>h.elim And.right And.right)
  obtain ⟨c0,c1,c2,c3,c4,c5,c6,c7,c8,c9,c10,c11,c12,c13,c14,c15,c16,c17,c18,c19,c20⟩:=row21 zz
  exact obE_run (wanted_of rfl rfl rfl e33) (by unfold execOp;simp only [];rw [e36];unfold tmV;go_simp) rfl
 ·refine ⟨⟨fun τ=>stableE_det _,leans_not⟩,?_⟩
  intro a w O hk
  have e35:a.eval (.tmp 35)=tmV P.pt d.ty:=hk.fact 28 _ 35 rfl rfl rfl rfl
  have e37:a.eval (.tmp 37)=tmV P2.pt d.ty:=hk.fact 30 _ 37 rfl rfl rfl rfl
  have e33:a.eval (.tmp 33)=.bool false:=hk.fact 26 _ 33 rfl rfl rfl rfl
  exact obE_callV #[tmV P.pt d.ty,tmV P2.pt d.ty] rfl rfl rfl rfl (by simp only [List.map_cons,List.map_nil];rw [e35,e37]) (wanted_of rfl rfl rfl e33) (tEqual_self d.ty hok.ty.1 hok.ty.2 P.pt P2.pt w (DcS.all (DcIn.stay hin (hk.world.below (fun k ⟨_,h⟩=>h.elim (fun h=>h.2.elim) fun h=>h.2.elim) (Nat.le_refl _)))).ty (DcS.all (DcIn.stay hin2 (hk.world.below (fun k ⟨_,h⟩=>h.elim (fun h=>h.2.elim) fun h=>h.2.elim) (Nat.le_refl _)))).ty)
 ·refine ⟨⟨fun τ=>stableE_det _,leans_not⟩,?_⟩
  intro a w O hk
  have e38:a.eval (.tmp 38)=.bool true:=hk.fact 31 _ 38 rfl rfl rfl rfl
  have e33:a.eval (.tmp 33)=.bool false:=hk.fact 26 _ 33 rfl rfl rfl rfl
  exact obE_run (wanted_of rfl rfl rfl e33) (by unfold execOp;simp only [];rw [e38];go_simp) rfl
 ·refine ⟨⟨fun τ=>stableE_det _,leans_not⟩,?_⟩
  intro a w O hk
  have e33:a.eval (.tmp 33)=.bool false:=hk.fact 26 _ 33 rfl rfl rfl rfl
  have e39:a.eval (.tmp 39)=.bool false:=hk.fact 32 _ 39 rfl rfl rfl rfl
  exact toE (ob_pick rfl e33 e39 (wanted_none rfl) rfl)
 ·refine ⟨⟨fun τ=>stableE_det _,leans_not⟩,?_⟩
  intro a w O hk
  have e40:a.eval (.tmp 40)=.bool false:=hk.fact 33 _ 40 rfl rfl rfl rfl
  exact toE (ob_move rfl e40 (wanted_none rfl) rfl)
 ·refine ⟨⟨fun τ=>stableE_det _,leans_not⟩,?_⟩
  intro a w O hk
  have e2:a.eval (.tmp 2)=.pointer (some ⟨g,0,none⟩):=(hk.init 2 (initialB_of_nw nw2)).trans hi2
  have e41:a.eval (.tmp 41)=.bool false:=hk.fact 34 _ 41 rfl rfl rfl rfl
  exact obE_run (wanted_of rfl rfl rfl e41) (by unfold execOp;simp only [];rw [e2];go_simp) rfl
 ·refine ⟨⟨fun τ=>stableE_det _,leans_not⟩,?_⟩
  intro a w O hk
  have e42:a.eval (.tmp 42)=.pointer (some ⟨g,11,none⟩):=hk.fact 35 _ 42 rfl rfl rfl rfl
  have e41:a.eval (.tmp 41)=.bool false:=hk.fact 34 _ 41 rfl rfl rfl rfl
  have zz:=hk.world.still hX (fun ⟨_,h⟩=>h.elim And.right And.right)
  obtain ⟨c0,c1,c2,c3,c4,c5,c6,c7,c8,c9,c10,c11,c12,c13,c14,c15,c16,c17,c18,c19,c20⟩:=row21 zz
  exact obE_run (wanted_of rfl rfl rfl e41) (by unfold execOp;simp only [];rw [e42];unfold tmV;go_simp) rfl
 ·refine ⟨⟨fun τ=>stableE_det _,leans_not⟩,?_⟩
  intro a w O hk
  have e3:a.eval (.tmp 3)=.pointer (some ⟨g',0,none⟩):=(hk.init 3 (initialB_of_nw nw3)).trans hi3
  have e41:a.eval (.tmp 41)=.bool false:=hk.fact 34 _ 41 rfl rfl rfl rfl
  exact obE_run (wanted_of rfl rfl rfl e41) (by unfold execOp;simp only [];rw [e3];go_simp) rfl
 ·refine ⟨⟨fun τ=>stableE_det _,leans_not⟩,?_⟩
  intro a w O hk
  have e44:a.eval (.tmp 44)=.pointer (some ⟨g',11,none⟩):=hk.fact 37 _ 44 rfl rfl rfl rfl
  have e41:a.eval (.tmp 41)=.bool false:=hk.fact 34 _ 41 rfl rfl rfl rfl
  have zz:=hk.world.still hY (fun ⟨_,h⟩=>h.elim And.right And.right)
  obtain ⟨c0,c1,c2,c3,c4,c5,c6,c7,c8,c9,c10,c11,c12,c13,c14,c15,c16,c17,c18,c19,c20⟩:=row21 zz
  exact obE_run (wanted_of rfl rfl rfl e41) (by unfold execOp;simp only [];rw [e44];unfold tmV;go_simp) rfl
 ·refine ⟨⟨fun τ=>stableE_det _,leans_not⟩,?_⟩
  intro a w O hk
  have e43:a.eval (.tmp 43)=tmV P.pv d.val:=hk.fact 36 _ 43 rfl rfl rfl rfl
  have e45:a.eval (.tmp 45)=tmV P2.pv d.val:=hk.fact 38 _ 45 rfl rfl rfl rfl
  have e41:a.eval (.tmp 41)=.bool false:=hk.fact 34 _ 41 rfl rfl rfl rfl
  exact obE_callV #[tmV P.pv d.val,tmV P2.pv d.val] rfl rfl rfl rfl (by simp only [List.map_cons,List.map_nil];rw [e43,e45]) (wanted_of rfl rfl rfl e41) (tEqual_self d.val hok.val.1 hok.val.2 P.pv P2.pv w (DcS.all (DcIn.stay hin (hk.world.below (fun k ⟨_,h⟩=>h.elim (fun h=>h.2.elim) fun h=>h.2.elim) (Nat.le_refl _)))).val (DcS.all (DcIn.stay hin2 (hk.world.below (fun k ⟨_,h⟩=>h.elim (fun h=>h.2.elim) fun h=>h.2.elim) (Nat.le_refl _)))).val)
 ·refine ⟨⟨fun τ=>stableE_det _,leans_not⟩,?_⟩
  intro a w O hk
  have e46:a.eval (.tmp 46)=.bool true:=hk.fact 39 _ 46 rfl rfl rfl rfl
  have e41:a.eval (.tmp 41)=.bool false:=hk.fact 34 _ 41 rfl rfl rfl rfl
  exact obE_run (wanted_of rfl rfl rfl e41) (by unfold execOp;simp only [];rw [e46];go_simp) rfl
 ·refine ⟨⟨fun τ=>stableE_det _,leans_not⟩,?_⟩
  intro a w O hk
  have e41:a.eval (.tmp 41)=.bool false:=hk.fact 34 _ 41 rfl rfl rfl rfl
  have e47:a.eval (.tmp 47)=.bool false:=hk.fact 40 _ 47 rfl rfl rfl rfl
  exact toE (ob_pick rfl e41 e47 (wanted_none rfl) rfl)
 ·refine ⟨⟨fun τ=>stableE_det _,leans_not⟩,?_⟩
  intro a w O hk
  have e48:a.eval (.tmp 48)=.bool false:=hk.fact 41 _ 48 rfl rfl rfl rfl
  exact toE (ob_move rfl e48 (wanted_none rfl) rfl)
 ·refine ⟨⟨fun τ=>stableE_det _,leans_not⟩,?_⟩
  intro a w O hk
  have e2:a.eval (.tmp 2)=.pointer (some ⟨g,0,none⟩):=(hk.init 2 (initialB_of_nw nw2)).trans hi2
  have e49:a.eval (.tmp 49)=.bool false:=hk.fact 42 _ 49 rfl rfl rfl rfl
  exact obE_run (wanted_of rfl rfl rfl e49) (by unfold execOp;simp only [];rw [e2];go_simp) rfl
 ·refine ⟨⟨fun τ=>stableE_det _,leans_not⟩,?_⟩
  intro a w O hk
  have e50:a.eval (.tmp 50)=.pointer (some ⟨g,20,none⟩):=hk.fact 43 _ 50 rfl rfl rfl rfl
  have e49:a.eval (.tmp 49)=.bool false:=hk.fact 42 _ 49 rfl rfl rfl rfl
  have zz:=hk.world.still hX (fun ⟨_,h⟩=>h.elim And.right And.right)
  obtain ⟨c0,c1,c2,c3,c4,c5,c6,c7,c8,c9,c10,c11,c12,c13,c14,c15,c16,c17,c18,c19,c20⟩:=row21 zz
  exact obE_run (wanted_of rfl rfl rfl e49) (by unfold execOp;simp only [];rw [e50];go_simp) rfl
 ·refine ⟨⟨fun τ=>stableE_det _,leans_not⟩,?_⟩
  intro a w O hk
  have e51:a.eval (.tmp 51)=.slice P.C d.cs.length P.e:=hk.fact 44 _ 51 rfl rfl rfl rfl
  have e49:a.eval (.tmp 49)=.bool false:=hk.fact 42 _ 49 rfl rfl rfl rfl
  exact toE (ob_len rfl e51 Try.underlying28 (wanted_of rfl rfl rfl e49) rfl)
 ·refine ⟨⟨fun τ=>stableE_det _,leans_not⟩,?_⟩
  intro a w O hk
  have e3:a.eval (.tmp 3)=.pointer (some ⟨g',0,none⟩):=(hk.init 3 (initialB_of_nw nw3)).trans hi3
  have e49:a.eval (.tmp 49)=.bool false:=hk.fact 42 _ 49 rfl rfl rfl rfl
  exact obE_run (wanted_of rfl rfl rfl e49) (by unfold execOp;simp only [];rw [e3];go_simp) rfl
 ·refine ⟨⟨fun τ=>stableE_det _,leans_not⟩,?_⟩
  intro a w O hk
  have e53:a.eval (.tmp 53)=.pointer (some ⟨g',20,none⟩):=hk.fact 46 _ 53 rfl rfl rfl rfl
  have e49:a.eval (.tmp 49)=.bool false:=hk.fact 42 _ 49 rfl rfl rfl rfl
  have zz:=hk.world.still hY (fun ⟨_,h⟩=>h.elim And.right And.right)
  obtain ⟨c0,c1,c2,c3,c4,c5,c6,c7,c8,c9,c10,c11,c12,c13,c14,c15,c16,c17,c18,c19,c20⟩:=row21 zz
  exact obE_run (wanted_of rfl rfl rfl e49) (by unfold execOp;simp only [];rw [e53];go_simp) rfl
 ·refine ⟨⟨fun τ=>stableE_det _,leans_not⟩,?_⟩
  intro a w O hk
  have e54:a.eval (.tmp 54)=.slice P2.C d.cs.length P2.e:=hk.fact 47 _ 54 rfl rfl rfl rfl
  have e49:a.eval (.tmp 49)=.bool false:=hk.fact 42 _ 49 rfl rfl rfl rfl
  exact toE (ob_len rfl e54 Try.underlying28 (wanted_of rfl rfl rfl e49) rfl)
 ·refine ⟨⟨fun τ=>stableE_det _,leans_not⟩,?_⟩
  intro a w O hk
  have e52:a.eval (.tmp 52)=.int .i64 d.cs.length:=hk.fact 45 _ 52 rfl rfl rfl rfl
  have e55:a.eval (.tmp 55)=.int .i64 d.cs.length:=hk.fact 48 _ 55 rfl rfl rfl rfl
  have e49:a.eval (.tmp 49)=.bool false:=hk.fact 42 _ 49 rfl rfl rfl rfl
  exact toE (ob_neqInt false rfl e52 e55 (by simp) (wanted_of rfl rfl rfl e49) rfl)
 ·refine ⟨⟨fun τ=>stableE_det _,leans_not⟩,?_⟩
  intro a w O hk
  have e49:a.eval (.tmp 49)=.bool false:=hk.fact 42 _ 49 rfl rfl rfl rfl
  have e56:a.eval (.tmp 56)=.bool false:=hk.fact 49 _ 56 rfl rfl rfl rfl
  exact toE (ob_pick rfl e49 e56 (wanted_none rfl) rfl)
set_option maxRecDepth 100000 in
set_option maxHeartbeats 8000000 in
theorem deq1_region {Q:Exit→Act→World→Prop} {id:Nat} (w0:World) (g g':Nat) (d:Dc) (P P2:DPl) {s0 s1 s4 s5 s6 s7 s8 s9 s10 s11 s12 s13 s14 s15 s16 s17 s18 s19 s20 s21 s22 s23 s24 s25 s26 s27 s28 s29 s30 s31 s32 s33 s34 s35 s36 s37 s38 s39 s40 s41 s42 s43 s44 s45 s46 s47 s48 s49 s50 s51 s52 s53 s54 s55 s56 s57 s58 s59 s60 s61 s62 s63 s64 s65 s66 s67 s68 s69 s70 s71 s72 s73 s74 s75 s76 s77 s78 s79 s80 s81 s82 s83 s84 s85 s86 s87:Value} (hX:w0.heap[g]?=some (dcO P d)) (hY:w0.heap[g']?=some (dcO P2 d)) (hin:DcIn w0 w0.heap.size P d) (hin2:DcIn w0 w0.heap.size P2 d) (hok:DqOk d)
  (hend:∀ (w':World),Chg (fun k=>False∨False) w0 w'→Q .normal { tmps:=(s0 :: s1 :: (.pointer (some ⟨g,0,none⟩)) :: (.pointer (some ⟨g',0,none⟩)) :: s4 :: s5 :: s6 :: (.pointer (some ⟨g,0,none⟩)) :: (.int .i64 d.kind) :: (.pointer (some ⟨g',0,none⟩)) :: (.int .i64 d.kind) :: (.bool false) :: (.bool false) :: (.pointer (some ⟨g,1,none⟩)) :: (.string d.nm) :: (.pointer (some ⟨g',1,none⟩)) :: (.string d.nm) :: (.bool false) :: (.bool false) :: (.bool false) :: (.pointer (some ⟨g,2,none⟩)) :: (.int .i64 d.vars) :: (.pointer (some ⟨g',2,none⟩)) :: (.int .i64 d.vars) :: (.bool false) :: (.bool false) :: (.bool false) :: (.pointer (some ⟨g,19,none⟩)) :: (.int .i64 d.params) :: (.pointer (some ⟨g',19,none⟩)) :: (.int .i64 d.params) :: (.bool false) :: (.bool false) :: (.bool false) :: (.pointer (some ⟨g,3,none⟩)) :: (tmV P.pt d.ty) :: (.pointer (some ⟨g',3,none⟩)) :: (tmV P2.pt d.ty) :: (.bool true) :: (.bool false) :: (.bool false) :: (.bool false) :: (.pointer (some ⟨g,11,none⟩)) :: (tmV P.pv d.val) :: (.pointer (some ⟨g',11,none⟩)) :: (tmV P2.pv d.val) :: (.bool true) :: (.bool false) :: (.bool false) :: (.bool false) :: (.pointer (some ⟨g,20,none⟩)) :: (.slice P.C d.cs.length P.e) :: (.int .i64 d.cs.length) :: (.pointer (some ⟨g',20,none⟩)) :: (.slice P2.C d.cs.length P2.e) :: (.int .i64 d.cs.length) :: (.bool false) :: (.bool false) :: s58 :: s59 :: s60 :: s61 :: s62 :: s63 :: s64 :: s65 :: s66 :: s67 :: s68 :: s69 :: s70 :: s71 :: s72 :: s73 :: s74 :: s75 :: s76 :: s77 :: s78 :: s79 :: s80 :: s81 :: s82 :: s83 :: s84 :: s85 :: s86 :: s87 :: []:List Value).toArray,defers:=[] } w') :
  (Code.region id deq1_ops.toArray false).wp Try.prog Q { tmps:=(s0 :: s1 :: (.pointer (some ⟨g,0,none⟩)) :: (.pointer (some ⟨g',0,none⟩)) :: s4 :: s5 :: s6 :: s7 :: s8 :: s9 :: s10 :: s11 :: s12 :: s13 :: s14 :: s15 :: s16 :: s17 :: s18 :: s19 :: s20 :: s21 :: s22 :: s23 :: s24 :: s25 :: s26 :: s27 :: s28 :: s29 :: s30 :: s31 :: s32 :: s33 :: s34 :: s35 :: s36 :: s37 :: s38 :: s39 :: s40 :: s41 :: s42 :: s43 :: s44 :: s45 :: s46 :: s47 :: s48 :: s49 :: s50 :: s51 :: s52 :: s53 :: s54 :: s55 :: s56 :: s57 :: s58 :: s59 :: s60 :: s61 :: s62 :: s63 :: s64 :: s65 :: s66 :: s67 :: s68 :: s69 :: s70 :: s71 :: s72 :: s73 :: s74 :: s75 :: s76 :: s77 :: s78 :: s79 :: s80 :: s81 :: s82 :: s83 :: s84 :: s85 :: s86 :: s87 :: []:List Value).toArray,defers:=[] } w0:=by
 refine wp_region_est0 (est2 0 0 (fun _=>False) (fun _=>False)) deq1_C (deq1_F w0 g g' d P P2) (est2_dis (fun _ h _=>h)) (est2_range (fun _ h=>h.elim) (fun _ h=>h.elim)) (by rfl) (by kernel_rfl) (deq1_obs w0 g g' d P P2 hX hY hin hin2 hok _ _ rfl rfl) ?_
 intro a w' O hd hs hb hf hf2 ha hsame
 have hl:=slots_eq (ops:=deq1_ops.toArray) ((7,.pointer (some ⟨g,0,none⟩)) :: (8,.int .i64 d.kind) :: (9,.pointer (some ⟨g',0,none⟩)) :: (10,.int .i64 d.kind) :: (11,.bool false) :: (12,.bool false) :: (13,.pointer (some ⟨g,1,none⟩)) :: (14,.string d.nm) :: (15,.pointer (some ⟨g',1,none⟩)) :: (16,.string d.nm) :: (17,.bool false) :: (18,.bool false) :: (19,.bool false) :: (20,.pointer (some ⟨g,2,none⟩)) :: (21,.int .i64 d.vars) :: (22,.pointer (some ⟨g',2,none⟩)) :: (23,.int .i64 d.vars) :: (24,.bool false) :: (25,.bool false) :: (26,.bool false) :: (27,.pointer (some ⟨g,19,none⟩)) :: (28,.int .i64 d.params) :: (29,.pointer (some ⟨g',19,none⟩)) :: (30,.int .i64 d.params) :: (31,.bool false) :: (32,.bool false) :: (33,.bool false) :: (34,.pointer (some ⟨g,3,none⟩)) :: (35,tmV P.pt d.ty) :: (36,.pointer (some ⟨g',3,none⟩)) :: (37,tmV P2.pt d.ty) :: (38,.bool true) :: (39,.bool false) :: (40,.bool false) :: (41,.bool false) :: (42,.pointer (some ⟨g,11,none⟩)) :: (43,tmV P.pv d.val) :: (44,.pointer (some ⟨g',11,none⟩)) :: (45,tmV P2.pv d.val) :: (46,.bool true) :: (47,.bool false) :: (48,.bool false) :: (49,.bool false) :: (50,.pointer (some ⟨g,20,none⟩)) :: (51,.slice P.C d.cs.length P.e) :: (52,.int .i64 d.cs.length) :: (53,.pointer (some ⟨g',20,none⟩)) :: (54,.slice P2.C d.cs.length P2.e) :: (55,.int .i64 d.cs.length) :: (56,.bool false) :: (57,.bool false) :: []:List (Nat × Value)) (show a.tmps.size=88 from hs) (fun i h=>hsame i h) ⟨(hf 0 _ 7 rfl rfl (by decide)).1,(hf 1 _ 8 rfl rfl (by decide)).1,(hf 2 _ 9 rfl rfl (by decide)).1,(hf 3 _ 10 rfl rfl (by decide)).1,(hf 4 _ 11 rfl rfl (by decide)).1,(hf 5 _ 12 rfl rfl (by decide)).1,(hf 6 _ 13 rfl rfl (by decide)).1,(hf 7 _ 14 rfl rfl (by decide)).1,(hf 8 _ 15 rfl rfl (by decide)).1,(hf 9 _ 16 rfl rfl (by decide)).1,(hf 10 _ 17 rfl rfl (by decide)).1,(hf 11 _ 18 rfl rfl (by decide)).1,(hf 12 _ 19 rfl rfl (by decide)).1,(hf 13 _ 20 rfl rfl (by decide)).1,(hf 14 _ 21 rfl rfl (by decide)).1,(hf 15 _ 22 rfl rfl (by decide)).1,(hf 16 _ 23 rfl rfl (by decide)).1,(hf 17 _ 24 rfl rfl (by decide)).1,(hf 18 _ 25 rfl rfl (by decide)).1,(hf 19 _ 26 rfl rfl (by decide)).1,(hf 20 _ 27 rfl rfl (by decide)).1,(hf 21 _ 28 rfl rfl (by decide)).1,(hf 22 _ 29 rfl rfl (by decide)).1,(hf 23 _ 30 rfl rfl (by decide)).1,(hf 24 _ 31 rfl rfl (by decide)).1,(hf 25 _ 32 rfl rfl (by decide)).1,(hf 26 _ 33 rfl rfl (by decide)).1,(hf 27 _ 34 rfl rfl (by decide)).1,(hf 28 _ 35 rfl rfl (by decide)).1,(hf 29 _ 36 rfl rfl (by decide)).1,(hf 30 _ 37 rfl rfl (by decide)).1,(hf 31 _ 38 rfl rfl (by decide)).1,(hf 32 _ 39 rfl rfl (by decide)).1,(hf 33 _ 40 rfl rfl (by decide)).1,(hf 34 _ 41 rfl rfl (by decide)).1,(hf 35 _ 42 rfl rfl (by decide)).1,(hf 36 _ 43 rfl rfl (by decide)).1,(hf 37 _ 44 rfl rfl (by decide)).1,(hf 38 _ 45 rfl rfl (by decide)).1,(hf 39 _ 46 rfl rfl (by decide)).1,(hf 40 _ 47 rfl rfl (by decide)).1,(hf 41 _ 48 rfl rfl (by decide)).1,(hf 42 _ 49 rfl rfl (by decide)).1,(hf 43 _ 50 rfl rfl (by decide)).1,(hf 44 _ 51 rfl rfl (by decide)).1,(hf 45 _ 52 rfl rfl (by decide)).1,(hf 46 _ 53 rfl rfl (by decide)).1,(hf 47 _ 54 rfl rfl (by decide)).1,(hf 48 _ 55 rfl rfl (by decide)).1,(hf 49 _ 56 rfl rfl (by decide)).1,(hf 50 _ 57 rfl rfl (by decide)).1,trivial⟩ (by kernel_rfl)
 obtain ⟨tmps,defers⟩:=a
 obtain rfl:defers=[]:=hd
 have hl':tmps=_:=hl
 rw [hl']
 have hb':=est2_chg hb
 refine Eq.mp ?_ (hend w' ⟨hb'.os,hb'.tape,hb'.output,hb'.size,hb'.block⟩)
 kernel_rfl

def deq6_ops:List Oper:=[
 { dst:=some 66,op:=Go.Op.fieldAddr 63 (Go.Operand.tmp 6) 0,type:=0,pos:= "ref.go:546",after:=#[],guard:=none },
 { dst:=some 67,op:=Go.Op.load 9 (Go.Operand.tmp 66),type:=9,pos:= "ref.go:546",after:=#[{ on:=0,ground:=Go.Ground.data }],guard:=none },
 { dst:=some 68,op:=Go.Op.fieldAddr 30 (Go.Operand.tmp 3) 6,type:=0,pos:= "ref.go:546",after:=#[],guard:=none },
 { dst:=some 69,op:=Go.Op.load 28 (Go.Operand.tmp 68),type:=28,pos:= "ref.go:546",after:=#[{ on:=2,ground:=Go.Ground.data }],guard:=none },
 { dst:=some 70,op:=Go.Op.move (Go.Operand.tmp 5),type:=3,pos:= "ref.go:546",after:=#[],guard:=none },
 { dst:=some 71,op:=Go.Op.indexAddr 28 (Go.Operand.tmp 69) (Go.Operand.tmp 70),type:=0,pos:= "ref.go:546",after:=#[{ on:=3,ground:=Go.Ground.data },{ on:=4,ground:=Go.Ground.data }],guard:=none },
 { dst:=some 72,op:=Go.Op.fieldAddr 63 (Go.Operand.tmp 71) 0,type:=0,pos:= "ref.go:546",after:=#[{ on:=5,ground:=Go.Ground.data }],guard:=none },
 { dst:=some 73,op:=Go.Op.load 9 (Go.Operand.tmp 72),type:=9,pos:= "ref.go:546",after:=#[{ on:=6,ground:=Go.Ground.data }],guard:=none },
 { dst:=some 74,op:=Go.Op.binOp Go.BinOp.neq 9 (Go.Operand.tmp 67) (Go.Operand.tmp 73) 9,type:=4,pos:= "ref.go:546",after:=#[{ on:=1,ground:=Go.Ground.data },{ on:=7,ground:=Go.Ground.data }],guard:=none },
 { dst:=some 75,op:=Go.Op.move (Go.Operand.tmp 74),type:=4,pos:= "ref.go:546",after:=#[{ on:=8,ground:=Go.Ground.data }],guard:=none },
 { dst:=some 76,op:=Go.Op.fieldAddr 63 (Go.Operand.tmp 6) 1,type:=0,pos:= "ref.go:546",after:=#[{ on:=9,ground:=Go.Ground.guard }],guard:=some (9,false) },
 { dst:=some 77,op:=Go.Op.load 27 (Go.Operand.tmp 76),type:=27,pos:= "ref.go:546",after:=#[{ on:=10,ground:=Go.Ground.data },{ on:=9,ground:=Go.Ground.guard }],guard:=some (9,false) },
 { dst:=some 78,op:=Go.Op.fieldAddr 30 (Go.Operand.tmp 3) 6,type:=0,pos:= "ref.go:546",after:=#[{ on:=9,ground:=Go.Ground.guard }],guard:=some (9,false) },
 { dst:=some 79,op:=Go.Op.load 28 (Go.Operand.tmp 78),type:=28,pos:= "ref.go:546",after:=#[{ on:=12,ground:=Go.Ground.data },{ on:=9,ground:=Go.Ground.guard }],guard:=some (9,false) },
 { dst:=some 80,op:=Go.Op.move (Go.Operand.tmp 5),type:=3,pos:= "ref.go:546",after:=#[{ on:=9,ground:=Go.Ground.guard }],guard:=some (9,false) },
 { dst:=some 81,op:=Go.Op.indexAddr 28 (Go.Operand.tmp 79) (Go.Operand.tmp 80),type:=0,pos:= "ref.go:546",after:=#[{ on:=13,ground:=Go.Ground.data },{ on:=14,ground:=Go.Ground.data },{ on:=9,ground:=Go.Ground.guard }],guard:=some (9,false) },
 { dst:=some 82,op:=Go.Op.fieldAddr 63 (Go.Operand.tmp 81) 1,type:=0,pos:= "ref.go:546",after:=#[{ on:=15,ground:=Go.Ground.data },{ on:=9,ground:=Go.Ground.guard }],guard:=some (9,false) },
 { dst:=some 83,op:=Go.Op.load 27 (Go.Operand.tmp 82),type:=27,pos:= "ref.go:546",after:=#[{ on:=16,ground:=Go.Ground.data },{ on:=9,ground:=Go.Ground.guard }],guard:=some (9,false) },
 { dst:=some 84,op:=Go.Op.call { callee:=Go.Callee.value (Go.Operand.func 46),args:=#[Go.Operand.tmp 77,Go.Operand.tmp 83],argTypes:=#[27,27] },type:=4,pos:= "ref.go:546",after:=#[{ on:=11,ground:=Go.Ground.data },{ on:=17,ground:=Go.Ground.data },{ on:=9,ground:=Go.Ground.chain },{ on:=9,ground:=Go.Ground.guard }],guard:=some (9,false) },
 { dst:=some 85,op:=Go.Op.unOp Go.UnOp.not 4 (Go.Operand.tmp 84),type:=4,pos:= "ref.go:546",after:=#[{ on:=18,ground:=Go.Ground.data },{ on:=9,ground:=Go.Ground.guard }],guard:=some (9,false) },
 { dst:=some 86,op:=Go.Op.pick (Go.Operand.tmp 75) (Go.Operand.const (Go.Value.bool true)) (Go.Operand.tmp 85),type:=4,pos:= "ref.go:546",after:=#[{ on:=9,ground:=Go.Ground.data },{ on:=19,ground:=Go.Ground.data }],guard:=none }]
def deq6_F (w0:World) (g' gc i:Nat) (d:Dc) (P2:DPl) (c:Ct) (p q:Pl) (gd od m:Nat):Nat→(Nat→Value)→Value→World→(Nat→Prop)→Prop:=fun rix=>match rix with
 | 0=>fun _ v _ _=>v=.pointer (some ⟨gc,0,none⟩)
 | 1=>fun _ v _ _=>v=.string c.nm
 | 2=>fun _ v _ _=>v=.pointer (some ⟨g',20,none⟩)
 | 3=>fun _ v _ _=>v=.slice (some ⟨gd,od,none⟩) m P2.e
 | 4=>fun _ v _ _=>v=.int .i64 i
 | 5=>fun _ v _ _=>v=.pointer (some ⟨gd,od+i * 9,none⟩)
 | 6=>fun _ v _ _=>v=.pointer (some ⟨gd,od+i * 9,none⟩)
 | 7=>fun _ v _ _=>v=.string c.nm
 | 8=>fun _ v _ _=>v=.bool false
 | 9=>fun _ v _ _=>v=.bool false
 | 10=>fun _ v _ _=>v=.pointer (some ⟨gc,1,none⟩)
 | 11=>fun _ v _ _=>v=tmV p c.ty
 | 12=>fun _ v _ _=>v=.pointer (some ⟨g',20,none⟩)
 | 13=>fun _ v _ _=>v=.slice (some ⟨gd,od,none⟩) m P2.e
 | 14=>fun _ v _ _=>v=.int .i64 i
 | 15=>fun _ v _ _=>v=.pointer (some ⟨gd,od+i * 9,none⟩)
 | 16=>fun _ v _ _=>v=.pointer (some ⟨gd,od+i * 9+1,none⟩)
 | 17=>fun _ v _ _=>v=tmV q c.ty
 | 18=>fun _ v _ _=>v=.bool true
 | 19=>fun _ v _ _=>v=.bool false
 | 20=>fun _ v _ _=>v=.bool false
 | _=>fun _ _ _ _=>True
def deq6_C:Nat→List Nat:=fun rix=>match rix with
 | _=>[]
theorem deq6_nw3:nwB deq6_ops.toArray 3=true:=by kernel_rfl
theorem deq6_nw5:nwB deq6_ops.toArray 5=true:=by kernel_rfl
theorem deq6_nw6:nwB deq6_ops.toArray 6=true:=by kernel_rfl
set_option maxRecDepth 100000 in
set_option maxHeartbeats 8000000 in
theorem deq6_obs (w0:World) (g' gc i:Nat) (d:Dc) (P2:DPl) (c:Ct) (p q:Pl) (gd od m:Nat) (hY:w0.heap[g']?=some (dcO P2 d)) (hZ:w0.heap[gc]?=some (ctO p c)) (hC:P2.C=some ⟨gd,od,none⟩) (hm:d.cs.length=m) (hgd:gd<w0.heap.size) (him:i<m) (hm9:m≤9223372036854775807) (cb0:w0.cell? ⟨gd,od+i * 9,none⟩=some (.string c.nm)) (cb1:w0.cell? ⟨gd,od+i * 9+1,none⟩=some (.int .i64 c.ty.kind)) (cb2:w0.cell? ⟨gd,od+i * 9+1+1,none⟩=some (.int .i64 c.ty.num)) (cb3:w0.cell? ⟨gd,od+i * 9+1+2,none⟩=some (.string c.ty.name)) (cb4:w0.cell? ⟨gd,od+i * 9+1+3,none⟩=some (.int .i64 c.ty.lv.kind)) (cb5:w0.cell? ⟨gd,od+i * 9+1+4,none⟩=some (.int .i64 c.ty.lv.num)) (cb6:w0.cell? ⟨gd,od+i * 9+1+5,none⟩=some (.slice q.A c.ty.lv.kids.length q.c)) (cb7:w0.cell? ⟨gd,od+i * 9+1+6,none⟩=some (.slice q.B c.ty.ls.length q.d)) (cb8:w0.cell? ⟨gd,od+i * 9+1+7,none⟩=some (.slice q.K c.ty.kids.length q.e)) (hi1:TmIn w0 w0.heap.size p c.ty) (hi2:TmIn w0 w0.heap.size q c.ty) (hok:TqOk c.ty) (Q:Exit→Act→World→Prop) (a0:Act) (hi3:a0.tmps.getD 3 undef=.pointer (some ⟨g',0,none⟩)) (hi5:a0.tmps.getD 5 undef=.int .i64 i) (hi6:a0.tmps.getD 6 undef=.pointer (some ⟨gc,0,none⟩)) :
  ObsE Try.prog deq6_ops.toArray Q (est2 0 0 (fun _=>False) (fun _=>False)) deq6_C (deq6_F w0 g' gc i d P2 c p q gd od m) a0 w0 deq6_ops.toArray.toList 0:=by
 have nw3:=deq6_nw3
 have nw5:=deq6_nw5
 have nw6:=deq6_nw6
 refine ⟨?_,?_,?_,?_,?_,?_,?_,?_,?_,?_,?_,?_,?_,?_,?_,?_,?_,?_,?_,?_,?_,trivial⟩
 ·refine ⟨⟨fun τ=>stableE_det _,leans_not⟩,?_⟩
  intro a w O hk
  have e6:a.eval (.tmp 6)=.pointer (some ⟨gc,0,none⟩):=(hk.init 6 (initialB_of_nw nw6)).trans hi6
  exact obE_run (wanted_none rfl) (by unfold execOp;simp only [];rw [e6];go_simp) rfl
 ·refine ⟨⟨fun τ=>stableE_det _,leans_not⟩,?_⟩
  intro a w O hk
  have e66:a.eval (.tmp 66)=.pointer (some ⟨gc,0,none⟩):=hk.fact 0 _ 66 rfl rfl rfl rfl
  have zz:=hk.world.still hZ (fun ⟨_,h⟩=>h.elim And.right And.right)
  obtain ⟨z0,z1,z2,z3,z4,z5,z6,z7,z8⟩:=row9 zz
  exact obE_run (wanted_none rfl) (by unfold execOp;simp only [];rw [e66];go_simp) rfl
 ·refine ⟨⟨fun τ=>stableE_det _,leans_not⟩,?_⟩
  intro a w O hk
  have e3:a.eval (.tmp 3)=.pointer (some ⟨g',0,none⟩):=(hk.init 3 (initialB_of_nw nw3)).trans hi3
  exact obE_run (wanted_none rfl) (by unfold execOp;simp only [];rw [e3];go_simp) rfl
 ·refine ⟨⟨fun τ=>stableE_det _,leans_not⟩,?_⟩
  intro a w O hk
  have e68:a.eval (.tmp 68)=.pointer (some ⟨g',20,none⟩):=hk.fact 2 _ 68 rfl rfl rfl rfl
  have zz:=hk.world.still hY (fun ⟨_,h⟩=>h.elim And.right And.right)
  obtain ⟨c0,c1,c2,c3,c4,c5,c6,c7,c8,c9,c10,c11,c12,c13,c14,c15,c16,c17,c18,c19,c20⟩:=row21 zz
  rw [hC,hm] at c20
  exact obE_run (wanted_none rfl) (by unfold execOp;simp only [];rw [e68];go_simp) rfl
 ·refine ⟨⟨fun τ=>stableE_det _,leans_not⟩,?_⟩
  intro a w O hk
  have e5:a.eval (.tmp 5)=.int .i64 i:=(hk.init 5 (initialB_of_nw nw5)).trans hi5
  exact toE (ob_move rfl e5 (wanted_none rfl) rfl)
 ·refine ⟨⟨fun τ=>stableE_det _,leans_not⟩,?_⟩
  intro a w O hk
  have e69:a.eval (.tmp 69)=.slice (some ⟨gd,od,none⟩) m P2.e:=hk.fact 3 _ 69 rfl rfl rfl rfl
  have e70:a.eval (.tmp 70)=.int .i64 i:=hk.fact 4 _ 70 rfl rfl rfl rfl
  exact obE_run (wanted_none rfl) (by unfold execOp;simp only [];rw [e69,e70];go_simp) rfl
 ·refine ⟨⟨fun τ=>stableE_det _,leans_not⟩,?_⟩
  intro a w O hk
  have e71:a.eval (.tmp 71)=.pointer (some ⟨gd,od+i * 9,none⟩):=hk.fact 5 _ 71 rfl rfl rfl rfl
  exact obE_run (wanted_none rfl) (by unfold execOp;simp only [];rw [e71];go_simp) rfl
 ·refine ⟨⟨fun τ=>stableE_det _,leans_not⟩,?_⟩
  intro a w O hk
  have e72:a.eval (.tmp 72)=.pointer (some ⟨gd,od+i * 9,none⟩):=hk.fact 6 _ 72 rfl rfl rfl rfl
  have hcd:∀ j,w.cell? ⟨gd,j,none⟩=w0.cell? ⟨gd,j,none⟩:=fun j=>cell_same ((hk.world.below (fun k ⟨_,h⟩=>h.elim (fun h=>h.2.elim) fun h=>h.2.elim) (Nat.le_refl _)).block _ hgd)
  have r0:=(hcd _).trans cb0
  exact obE_run (wanted_none rfl) (by unfold execOp;simp only [];rw [e72];go_simp) rfl
 ·refine ⟨⟨fun τ=>stableE_det _,leans_not⟩,?_⟩
  intro a w O hk
  have e67:a.eval (.tmp 67)=.string c.nm:=hk.fact 1 _ 67 rfl rfl rfl rfl
  have e73:a.eval (.tmp 73)=.string c.nm:=hk.fact 7 _ 73 rfl rfl rfl rfl
  exact obE_run (wanted_none rfl) (by unfold execOp;simp only [];rw [e67,e73];go_simp) rfl
 ·refine ⟨⟨fun τ=>stableE_det _,leans_not⟩,?_⟩
  intro a w O hk
  have e74:a.eval (.tmp 74)=.bool false:=hk.fact 8 _ 74 rfl rfl rfl rfl
  exact toE (ob_move rfl e74 (wanted_none rfl) rfl)
 ·refine ⟨⟨fun τ=>stableE_det _,leans_not⟩,?_⟩
  intro a w O hk
  have e6:a.eval (.tmp 6)=.pointer (some ⟨gc,0,none⟩):=(hk.init 6 (initialB_of_nw nw6)).trans hi6
  have e75:a.eval (.tmp 75)=.bool false:=hk.fact 9 _ 75 rfl rfl rfl rfl
  exact obE_run (wanted_of rfl rfl rfl e75) (by unfold execOp;simp only [];rw [e6];go_simp) rfl
 ·refine ⟨⟨fun τ=>stableE_det _,leans_not⟩,?_⟩
  intro a w O hk
  have e76:a.eval (.tmp 76)=.pointer (some ⟨gc,1,none⟩):=hk.fact 10 _ 76 rfl rfl rfl rfl
  have e75:a.eval (.tmp 75)=.bool false:=hk.fact 9 _ 75 rfl rfl rfl rfl
  have zz:=hk.world.still hZ (fun ⟨_,h⟩=>h.elim And.right And.right)
  obtain ⟨z0,z1,z2,z3,z4,z5,z6,z7,z8⟩:=row9 zz
  exact obE_run (wanted_of rfl rfl rfl e75) (by unfold execOp;simp only [];rw [e76];unfold tmV;go_simp) rfl
 ·refine ⟨⟨fun τ=>stableE_det _,leans_not⟩,?_⟩
  intro a w O hk
  have e3:a.eval (.tmp 3)=.pointer (some ⟨g',0,none⟩):=(hk.init 3 (initialB_of_nw nw3)).trans hi3
  have e75:a.eval (.tmp 75)=.bool false:=hk.fact 9 _ 75 rfl rfl rfl rfl
  exact obE_run (wanted_of rfl rfl rfl e75) (by unfold execOp;simp only [];rw [e3];go_simp) rfl
 ·refine ⟨⟨fun τ=>stableE_det _,leans_not⟩,?_⟩
  intro a w O hk
  have e78:a.eval (.tmp 78)=.pointer (some ⟨g',20,none⟩):=hk.fact 12 _ 78 rfl rfl rfl rfl
  have e75:a.eval (.tmp 75)=.bool false:=hk.fact 9 _ 75 rfl rfl rfl rfl
  have zz:=hk.world.still hY (fun ⟨_,h⟩=>h.elim And.right And.right)
  obtain ⟨c0,c1,c2,c3,c4,c5,c6,c7,c8,c9,c10,c11,c12,c13,c14,c15,c16,c17,c18,c19,c20⟩:=row21 zz
  rw [hC,hm] at c20
  exact obE_run (wanted_of rfl rfl rfl e75) (by unfold execOp;simp only [];rw [e78];go_simp) rfl
 ·refine ⟨⟨fun τ=>stableE_det _,leans_not⟩,?_⟩
  intro a w O hk
  have e5:a.eval (.tmp 5)=.int .i64 i:=(hk.init 5 (initialB_of_nw nw5)).trans hi5
  have e75:a.eval (.tmp 75)=.bool false:=hk.fact 9 _ 75 rfl rfl rfl rfl
  exact toE (ob_move rfl e5 (wanted_of rfl rfl rfl e75) rfl)
 ·refine ⟨⟨fun τ=>stableE_det _,leans_not⟩,?_⟩
  intro a w O hk
  have e79:a.eval (.tmp 79)=.slice (some ⟨gd,od,none⟩) m P2.e:=hk.fact 13 _ 79 rfl rfl rfl rfl
  have e80:a.eval (.tmp 80)=.int .i64 i:=hk.fact 14 _ 80 rfl rfl rfl rfl
  have e75:a.eval (.tmp 75)=.bool false:=hk.fact 9 _ 75 rfl rfl rfl rfl
  exact obE_run (wanted_of rfl rfl rfl e75) (by unfold execOp;simp only [];rw [e79,e80];go_simp) rfl
 ·refine ⟨⟨fun τ=>stableE_det _,leans_not⟩,?_⟩
  intro a w O hk
  have e81:a.eval (.tmp 81)=.pointer (some ⟨gd,od+i * 9,none⟩):=hk.fact 15 _ 81 rfl rfl rfl rfl
  have e75:a.eval (.tmp 75)=.bool false:=hk.fact 9 _ 75 rfl rfl rfl rfl
  exact obE_run (wanted_of rfl rfl rfl e75) (by unfold execOp;simp only [];rw [e81];go_simp) rfl
 ·refine ⟨⟨fun τ=>stableE_det _,leans_not⟩,?_⟩
  intro a w O hk
  have e82:a.eval (.tmp 82)=.pointer (some ⟨gd,od+i * 9+1,none⟩):=hk.fact 16 _ 82 rfl rfl rfl rfl
  have e75:a.eval (.tmp 75)=.bool false:=hk.fact 9 _ 75 rfl rfl rfl rfl
  have hcd:∀ j,w.cell? ⟨gd,j,none⟩=w0.cell? ⟨gd,j,none⟩:=fun j=>cell_same ((hk.world.below (fun k ⟨_,h⟩=>h.elim (fun h=>h.2.elim) fun h=>h.2.elim) (Nat.le_refl _)).block _ hgd)
  have r1:=(hcd _).trans cb1
  have r2:=(hcd _).trans cb2
  have r3:=(hcd _).trans cb3
  have r4:=(hcd _).trans cb4
  have r5:=(hcd _).trans cb5
  have r6:=(hcd _).trans cb6
  have r7:=(hcd _).trans cb7
  have r8:=(hcd _).trans cb8
  exact obE_run (wanted_of rfl rfl rfl e75) (by unfold execOp;simp only [];rw [e82];unfold tmV;go_simp) rfl
 ·refine ⟨⟨fun τ=>stableE_det _,leans_not⟩,?_⟩
  intro a w O hk
  have e77:a.eval (.tmp 77)=tmV p c.ty:=hk.fact 11 _ 77 rfl rfl rfl rfl
  have e83:a.eval (.tmp 83)=tmV q c.ty:=hk.fact 17 _ 83 rfl rfl rfl rfl
  have e75:a.eval (.tmp 75)=.bool false:=hk.fact 9 _ 75 rfl rfl rfl rfl
  exact obE_callV #[tmV p c.ty,tmV q c.ty] rfl rfl rfl rfl (by simp only [List.map_cons,List.map_nil];rw [e77,e83]) (wanted_of rfl rfl rfl e75) (tEqual_self c.ty hok.1 hok.2 p q w (TmS.all (TmIn.stay hi1 (hk.world.below (fun k ⟨_,h⟩=>h.elim (fun h=>h.2.elim) fun h=>h.2.elim) (Nat.le_refl _)))) (TmS.all (TmIn.stay hi2 (hk.world.below (fun k ⟨_,h⟩=>h.elim (fun h=>h.2.elim) fun h=>h.2.elim) (Nat.le_refl _)))))
 ·refine ⟨⟨fun τ=>stableE_det _,leans_not⟩,?_⟩
  intro a w O hk
  have e84:a.eval (.tmp 84)=.bool true:=hk.fact 18 _ 84 rfl rfl rfl rfl
  have e75:a.eval (.tmp 75)=.bool false:=hk.fact 9 _ 75 rfl rfl rfl rfl
  exact obE_run (wanted_of rfl rfl rfl e75) (by unfold execOp;simp only [];rw [e84];go_simp) rfl
 ·refine ⟨⟨fun τ=>stableE_det _,leans_not⟩,?_⟩
  intro a w O hk
  have e75:a.eval (.tmp 75)=.bool false:=hk.fact 9 _ 75 rfl rfl rfl rfl
  have e85:a.eval (.tmp 85)=.bool false:=hk.fact 19 _ 85 rfl rfl rfl rfl
  exact toE (ob_pick rfl e75 e85 (wanted_none rfl) rfl)
set_option maxRecDepth 100000 in
set_option maxHeartbeats 8000000 in
theorem deq6_region {Q:Exit→Act→World→Prop} {id:Nat} (w0:World) (g' gc i:Nat) (d:Dc) (P2:DPl) (c:Ct) (p q:Pl) (gd od m:Nat) {s0 s1 s2 s4 s7 s8 s9 s10 s11 s12 s13 s14 s15 s16 s17 s18 s19 s20 s21 s22 s23 s24 s25 s26 s27 s28 s29 s30 s31 s32 s33 s34 s35 s36 s37 s38 s39 s40 s41 s42 s43 s44 s45 s46 s47 s48 s49 s50 s51 s52 s53 s54 s55 s56 s57 s58 s59 s60 s61 s62 s63 s64 s65 s66 s67 s68 s69 s70 s71 s72 s73 s74 s75 s76 s77 s78 s79 s80 s81 s82 s83 s84 s85 s86 s87:Value} (hY:w0.heap[g']?=some (dcO P2 d)) (hZ:w0.heap[gc]?=some (ctO p c)) (hC:P2.C=some ⟨gd,od,none⟩) (hm:d.cs.length=m) (hgd:gd<w0.heap.size) (him:i<m) (hm9:m≤9223372036854775807) (cb0:w0.cell? ⟨gd,od+i * 9,none⟩=some (.string c.nm)) (cb1:w0.cell? ⟨gd,od+i * 9+1,none⟩=some (.int .i64 c.ty.kind)) (cb2:w0.cell? ⟨gd,od+i * 9+1+1,none⟩=some (.int .i64 c.ty.num)) (cb3:w0.cell? ⟨gd,od+i * 9+1+2,none⟩=some (.string c.ty.name)) (cb4:w0.cell? ⟨gd,od+i * 9+1+3,none⟩=some (.int .i64 c.ty.lv.kind)) (cb5:w0.cell? ⟨gd,od+i * 9+1+4,none⟩=some (.int .i64 c.ty.lv.num)) (cb6:w0.cell? ⟨gd,od+i * 9+1+5,none⟩=some (.slice q.A c.ty.lv.kids.length q.c)) (cb7:w0.cell? ⟨gd,od+i * 9+1+6,none⟩=some (.slice q.B c.ty.ls.length q.d)) (cb8:w0.cell? ⟨gd,od+i * 9+1+7,none⟩=some (.slice q.K c.ty.kids.length q.e)) (hi1:TmIn w0 w0.heap.size p c.ty) (hi2:TmIn w0 w0.heap.size q c.ty) (hok:TqOk c.ty)
  (hend:∀ (w':World),Chg (fun k=>False∨False) w0 w'→Q .normal { tmps:=(s0 :: s1 :: s2 :: (.pointer (some ⟨g',0,none⟩)) :: s4 :: (.int .i64 i) :: (.pointer (some ⟨gc,0,none⟩)) :: s7 :: s8 :: s9 :: s10 :: s11 :: s12 :: s13 :: s14 :: s15 :: s16 :: s17 :: s18 :: s19 :: s20 :: s21 :: s22 :: s23 :: s24 :: s25 :: s26 :: s27 :: s28 :: s29 :: s30 :: s31 :: s32 :: s33 :: s34 :: s35 :: s36 :: s37 :: s38 :: s39 :: s40 :: s41 :: s42 :: s43 :: s44 :: s45 :: s46 :: s47 :: s48 :: s49 :: s50 :: s51 :: s52 :: s53 :: s54 :: s55 :: s56 :: s57 :: s58 :: s59 :: s60 :: s61 :: s62 :: s63 :: s64 :: s65 :: (.pointer (some ⟨gc,0,none⟩)) :: (.string c.nm) :: (.pointer (some ⟨g',20,none⟩)) :: (.slice (some ⟨gd,od,none⟩) m P2.e) :: (.int .i64 i) :: (.pointer (some ⟨gd,od+i * 9,none⟩)) :: (.pointer (some ⟨gd,od+i * 9,none⟩)) :: (.string c.nm) :: (.bool false) :: (.bool false) :: (.pointer (some ⟨gc,1,none⟩)) :: (tmV p c.ty) :: (.pointer (some ⟨g',20,none⟩)) :: (.slice (some ⟨gd,od,none⟩) m P2.e) :: (.int .i64 i) :: (.pointer (some ⟨gd,od+i * 9,none⟩)) :: (.pointer (some ⟨gd,od+i * 9+1,none⟩)) :: (tmV q c.ty) :: (.bool true) :: (.bool false) :: (.bool false) :: s87 :: []:List Value).toArray,defers:=[] } w') :
  (Code.region id deq6_ops.toArray true).wp Try.prog Q { tmps:=(s0 :: s1 :: s2 :: (.pointer (some ⟨g',0,none⟩)) :: s4 :: (.int .i64 i) :: (.pointer (some ⟨gc,0,none⟩)) :: s7 :: s8 :: s9 :: s10 :: s11 :: s12 :: s13 :: s14 :: s15 :: s16 :: s17 :: s18 :: s19 :: s20 :: s21 :: s22 :: s23 :: s24 :: s25 :: s26 :: s27 :: s28 :: s29 :: s30 :: s31 :: s32 :: s33 :: s34 :: s35 :: s36 :: s37 :: s38 :: s39 :: s40 :: s41 :: s42 :: s43 :: s44 :: s45 :: s46 :: s47 :: s48 :: s49 :: s50 :: s51 :: s52 :: s53 :: s54 :: s55 :: s56 :: s57 :: s58 :: s59 :: s60 :: s61 :: s62 :: s63 :: s64 :: s65 :: s66 :: s67 :: s68 :: s69 :: s70 :: s71 :: s72 :: s73 :: s74 :: s75 :: s76 :: s77 :: s78 :: s79 :: s80 :: s81 :: s82 :: s83 :: s84 :: s85 :: s86 :: s87 :: []:List Value).toArray,defers:=[] } w0:=by
 refine wp_region_est (by kernel_rfl) (est2 0 0 (fun _=>False) (fun _=>False)) deq6_C (deq6_F w0 g' gc i d P2 c p q gd od m) (est2_dis (fun _ h _=>h)) (est2_range (fun _ h=>h.elim) (fun _ h=>h.elim)) (by rfl) (by kernel_rfl) (deq6_obs w0.drew g' gc i d P2 c p q gd od m hY hZ hC hm hgd him hm9 cb0 cb1 cb2 cb3 cb4 cb5 cb6 cb7 cb8 (TmS.same hi1 (fun _ _ _=>rfl)) (TmS.same hi2 (fun _ _ _=>rfl)) hok _ _ rfl rfl rfl) ?_
 intro a w' O hd hs hb hf hf2 ha hsame
 have hl:=slots_eq (ops:=deq6_ops.toArray) [(66,.pointer (some ⟨gc,0,none⟩)),(67,.string c.nm),(68,.pointer (some ⟨g',20,none⟩)),(69,.slice (some ⟨gd,od,none⟩) m P2.e),(70,.int .i64 i),(71,.pointer (some ⟨gd,od+i * 9,none⟩)),(72,.pointer (some ⟨gd,od+i * 9,none⟩)),(73,.string c.nm),(74,.bool false),(75,.bool false),(76,.pointer (some ⟨gc,1,none⟩)),(77,tmV p c.ty),(78,.pointer (some ⟨g',20,none⟩)),(79,.slice (some ⟨gd,od,none⟩) m P2.e),(80,.int .i64 i),(81,.pointer (some ⟨gd,od+i * 9,none⟩)),(82,.pointer (some ⟨gd,od+i * 9+1,none⟩)),(83,tmV q c.ty),(84,.bool true),(85,.bool false),(86,.bool false)] (show a.tmps.size=88 from hs) (fun i h=>hsame i h) ⟨(hf 0 _ 66 rfl rfl (by decide)).1,(hf 1 _ 67 rfl rfl (by decide)).1,(hf 2 _ 68 rfl rfl (by decide)).1,(hf 3 _ 69 rfl rfl (by decide)).1,(hf 4 _ 70 rfl rfl (by decide)).1,(hf 5 _ 71 rfl rfl (by decide)).1,(hf 6 _ 72 rfl rfl (by decide)).1,(hf 7 _ 73 rfl rfl (by decide)).1,(hf 8 _ 74 rfl rfl (by decide)).1,(hf 9 _ 75 rfl rfl (by decide)).1,(hf 10 _ 76 rfl rfl (by decide)).1,(hf 11 _ 77 rfl rfl (by decide)).1,(hf 12 _ 78 rfl rfl (by decide)).1,(hf 13 _ 79 rfl rfl (by decide)).1,(hf 14 _ 80 rfl rfl (by decide)).1,(hf 15 _ 81 rfl rfl (by decide)).1,(hf 16 _ 82 rfl rfl (by decide)).1,(hf 17 _ 83 rfl rfl (by decide)).1,(hf 18 _ 84 rfl rfl (by decide)).1,(hf 19 _ 85 rfl rfl (by decide)).1,(hf 20 _ 86 rfl rfl (by decide)).1,trivial⟩ (by kernel_rfl)
 obtain ⟨tmps,defers⟩:=a
 obtain rfl:defers=[]:=hd
 have hl':tmps=_:=hl
 rw [hl']
 have hb':=est2_chg hb
 refine Eq.mp ?_ (hend w' ⟨hb'.os,hb'.tape,hb'.output,hb'.size,hb'.block⟩)
 kernel_rfl

end Go.Proofs.Ytcgkeolgflphiaa

namespace Go.Proofs.Ytcgkeolgflphiaa
open Go.RowKit Go.Proofs.YtcgkeolgflphiaaW.PrintWords Go.RegionInvYtcgkeolgflphiaa Go.RegionEYtcgkeolgflphiaa

set_option maxRecDepth 100000 in
set_option maxHeartbeats 4000000 in
theorem dEqual_self (d:Dc) (hok:DqOk d) (P Q:DPl) (w:World) (hin:DcIn w w.heap.size P d) (hin2:DcIn w w.heap.size Q d) :
  Calls Try.prog 23 #[dcV P d,dcV Q d] w fun e w'=>e=.returned (.bool true)∧Below w.heap.size w w':=by
 have HOK:=Ak hok
 have HIN:=Ak hin
 have HIN2:=Ak hin2
 obtain ⟨W,hW⟩:∃ W,W=(w.alloc (dcO P d)).alloc (dcO Q d):=⟨_,rfl⟩
 have hb:Below w.heap.size w W:=by rw [hW];exact below_alloc (below_alloc (Below.refl _ _) _) _
 have HX:=Ak (show W.heap[w.heap.size]?=some (dcO P d) by rw [hW];exact box0 w _ _)
 have HY:=Ak (show W.heap[w.heap.size+1]?=some (dcO Q d) by rw [hW];exact box1 w _ _)
 have HB:=Ak hb
 obtain ⟨M,hM⟩:∃ M,d.cs.length=M:=⟨_,rfl⟩
 have HM:=Ak hM
 have hm9:M≤9223372036854775807:=by rw [← hM];exact Nat.le_trans hin.len.1 hin.len.2
 clear hok hin hin2 hb hM
 unfold dcV
 unfold dcO at hW
 go_enter Try.func23,Try.ntmps23
 go_upto_region 1 with (fail)
 rw [← hW]
 clear hW
 refine deq1_region W w.heap.size (w.heap.size+1) d P Q HX.out HY.out (DcS.all (DcIn.stay HIN.out HB.out)) (DcS.all (DcIn.stay HIN2.out HB.out)) HOK.out ?_
 intro w1 hch
 have hb1:Below W.heap.size W w1:=hch.below (fun _ h=>h.elim False.elim False.elim) (Nat.le_refl _)
 have HB1:=Ak (below_then HB.out HB.out.size hb1)
 have HX1:=Ak ((hb1.block _ (blk_lt HX.out)).trans HX.out)
 have HY1:=Ak ((hb1.block _ (blk_lt HY.out)).trans HY.out)
 rw [HM.out]
 clear hch hb1 HX HY
 obtain ⟨-,-,-,-,-,-,-,-,-,-,-,-,-,-,-,-,-,-,-,-,c20⟩:=row21 HX1.out
 rw [HM.out] at c20
 go_wp2
 clear c20
 go_loopw [61] (fun i wr=>∃ k:Nat,i=.int .i64 k∧k≤M∧Aside0 (Below w1.heap.size w1 wr)) (fun i _=>M - (intOf i).toNat)
 case atStart=>exact ⟨0,rfl,Nat.zero_le _,⟨Below.refl _ _⟩⟩
 case round =>
  obtain ⟨k,rfl,hk,HBR⟩:=hrel
  by_cases hlk:k<M
  ·obtain ⟨c,hc⟩:∃ c,d.cs[k]?=some c:=⟨_,List.getElem?_eq_getElem (by rw [HM.out];exact hlk)⟩
   have HBA:=Ak (below_then HB1.out HB1.out.size HBR.out)
   obtain ⟨⟨ga,oa,hpC,hga,hca⟩,hxin,-⟩:=(DcIn.stay HIN.out HBA.out).ct k c hc
   obtain ⟨⟨gd,od,hqC,hgd,hcb⟩,hyin,-⟩:=(DcIn.stay HIN2.out HBA.out).ct k c hc
   have HSX:=Ak (HOK.out.cs c (List.mem_of_getElem? hc))
   have HYR:=Ak ((HBR.out.block _ (blk_lt HY1.out)).trans HY1.out)
   have HXI:=Ak (TmS.all hxin)
   have HYI:=Ak (TmS.all hyin)
   obtain ⟨p,hp⟩:∃ p,P.q k=p:=⟨_,rfl⟩
   rw [hp] at hca HXI
   have a0:wr.cell? ⟨ga,oa+k * 9,none⟩=some (.string c.nm):=hca 0 _ rfl
   have a1:=hca 1 _ rfl
   have a2:=hca 2 _ rfl
   have a3:=hca 3 _ rfl
   have a4:=hca 4 _ rfl
   have a5:=hca 5 _ rfl
   have a6:=hca 6 _ rfl
   have a7:=hca 7 _ rfl
   have a8:=hca 8 _ rfl
   have hpA:=hpC
   rw [hpC]
   clear hxin hyin hp hc hca
   go_upto_region 6 with (fail)
   have hzr:=HBA.out.size
   have hbx:=blk_new wr (ctO p c)
   have hb5:=below_alloc (Below.refl wr.heap.size wr) (ctO p c)
   have cb:=fun (j:Nat) (v:Value) (h:(ctC (Q.q k) c)[j]?=some v)=>(cell_same (hb5.block gd (by omega))).trans (hcb j v h)
   have hya:=(hb5.block _ (blk_lt HYR.out)).trans HYR.out
   have hi1:=TmS.all (TmIn.stay HXI.out hb5)
   have hi2:=TmS.all (TmIn.stay HYI.out hb5)
   have hz5:=hb5.size
   refine deq6_region (wr.alloc (ctO p c)) (w.heap.size+1) wr.heap.size k d Q c p (Q.q k) gd od M hya hbx hqC HM.out (by omega) hlk hm9 (cb 0 _ rfl) (cb 1 _ rfl) (cb 2 _ rfl) (cb 3 _ rfl) (cb 4 _ rfl) (cb 5 _ rfl) (cb 6 _ rfl) (cb 7 _ rfl) (cb 8 _ rfl) hi1 hi2 HSX.out ?_
   intro w5 hch
   have HB5:=Ak (Below.trans (Below.trans HBR.out (hb5.mono HBR.out.size)) ((hch.below (fun _ h=>h.elim False.elim False.elim) (Nat.le_refl _)).mono (Nat.le_trans HBR.out.size hz5)))
   clear hch hbx hb5 cb hya hi1 hi2 hz5 hcb a0 a1 a2 a3 a4 a5 a6 a7 a8 hpA hqC
   go_wp2
   go_roundw
   case rel=>exact ⟨k+1,by go_num,by omega,HB5⟩
   case measure=>(simp [intOf];try omega)
  ·obtain rfl:k=M:=by omega
   have hlt':decide ((k:Int)<k)=false:=by simp
   have HFN:=Ak (below_then HB1.out HB1.out.size HBR.out)
   go_wp2
   go_ret
   exact ⟨rfl,HFN.out⟩
end Go.Proofs.Ytcgkeolgflphiaa

namespace Go.Proofs.Ytcgkeolgflphiaa
open Go.RowKit Go.Proofs.YtcgkeolgflphiaaW.PrintWords Go.RegionInvYtcgkeolgflphiaa

namespace FinA
def maxK (t:Tm) (xs:List (Fin (nK t))):Nat:=(xs.map fun i=>depthT (kidF t i)).foldr max 0
def sumK (t:Tm) (xs:List (Fin (nK t))):Nat:=(xs.map fun i=>sizeT (kidF t i)).sum
theorem depth_eq (t:Tm):depthT t=1+maxK t (List.finRange (nK t)):=by rw [depthT];rfl
theorem size_eq (t:Tm):sizeT t=1+sumK t (List.finRange (nK t)):=by rw [sizeT];rfl
inductive Fine:Tm→Prop
 | mk {t:Tm} (ha:(t.kids.length:Int)=arZ t.kind) (hn:t.kind=1→0≤t.num∧t.num≤1048576) (hk:∀ i:Fin (nK t),Fine (kidF t i)):Fine t
theorem Fine.num {t:Tm} (h:Fine t):t.kind=1→0≤t.num∧t.num≤1048576:=by cases h;assumption
theorem mn_num0 {v:Int} {t:Tm} (h:mnP v t=0) (h1:t.kind=1):0≤t.num∧t.num≤1048576:=by
 have ha:=mn_arity h
 refine Classical.byContradiction fun hn=>?_
 rw [mn_num ha ⟨h1,by omega⟩] at h
 cases h
theorem may_fine (v:Int) (N:Nat):∀ (t:Tm),SizeOf.sizeOf t<N→∀ (d b n:Int),(foldP (mtF v) t d b (n,0)).1=true →
  Fine t∧d+depthT t≤65∧n+sizeT t≤400∧(foldP (mtF v) t d b (n,0)).2=(n+sizeT t,0):=by
 induction N with
 | zero=>intro t h;omega
 | succ N ih =>
  intro t hN d b n h
  by_cases hl:64<d∨400<n+1
  ·rw [mt_long hl] at h;cases h
  ·by_cases hm:mnP v t=0
   ·rw [mt_go hl hm] at h ⊢
    have key:∀ (xs:List (Fin (nK t))) (n:Int),(runL (kidsM v t d b) xs (n,0)).1=true →
      (∀ x∈xs,Fine (kidF t x)∧d+1+depthT (kidF t x)≤65)∧(n≤400→n+sumK t xs≤400)∧(runL (kidsM v t d b) xs (n,0)).2=(n+sumK t xs,0):=by
     intro xs
     induction xs with
     | nil =>
      intro n _
      refine ⟨(fun x hx=>by cases hx),(fun h=>by simp [sumK];omega),?_⟩
      refine Prod.ext ?_ rfl
      show n=n+((sumK t []:Nat):Int)
      simp [sumK]
     | cons x r ihr =>
      intro n hm
      rw [runL] at hm ⊢
      by_cases hc:(kidsM v t d b x (n,0)).1=true
      ·rw [if_pos hc] at hm ⊢
       have h4:=ih (kidF t x) (by have:=kidF_lt t x;omega) (d+1) (b+moreZ t x) n hc
       have h42:(kidsM v t d b x (n,0)).2=(n+sizeT (kidF t x),0):=h4.2.2.2
       rw [h42] at hm ⊢
       have h5:=ihr _ hm
       have e1:sumK t (x :: r)=sizeT (kidF t x)+sumK t r:=by unfold sumK;rw [List.map_cons,List.sum_cons]
       refine ⟨fun y hy=>?_,fun hn=>?_,?_⟩
       ·rcases List.mem_cons.1 hy with rfl | hy
        ·exact ⟨h4.1,h4.2.1⟩
        ·exact h5.1 y hy
       ·have:=h5.2.1 h4.2.2.1;rw [e1];push_cast;omega
       ·rw [h5.2.2,e1]
        refine Prod.ext ?_ rfl
        show n+(sizeT (kidF t x):Int)+(sumK t r:Int)=n+((sizeT (kidF t x)+sumK t r:Nat):Int)
        push_cast
        omega
      ·rw [if_neg hc] at hm;cases hm
    have h2:=key _ _ h
    have hd:d+depthT t≤65:=by
     rw [depth_eq]
     have:maxK t (List.finRange (nK t))≤(64 - d).toNat:=by
      refine max_le_of fun x hx=>?_
      obtain ⟨i,hi,rfl⟩:=List.mem_map.1 hx
      have:=(h2.1 i hi).2
      omega
     omega
    have h4:=h2.2.1 (by omega)
    refine ⟨.mk (mn_arity hm) (mn_num0 hm) fun i=>(h2.1 i (List.mem_finRange i)).1,hd,by rw [size_eq];push_cast;omega,?_⟩
    rw [h2.2.2,size_eq]
    refine Prod.ext ?_ rfl
    show n+1+(sumK t (List.finRange (nK t)):Int)=n+((1+sumK t (List.finRange (nK t)):Nat):Int)
    push_cast
    omega
   ·rw [mt_stop hl rfl hm] at h;cases h
theorem may_ok {v:Int} {t:Tm} (h:mayT v t=0):Fine t∧depthT t≤64∧sizeT t≤400:=by
 have h1:=(mt_true v _ t (Nat.lt_succ_self _) 1 0 (0,0)).2 h
 have h2:=may_fine v _ t (Nat.lt_succ_self _) 1 0 0 h1
 exact ⟨h2.1,by omega,by omega⟩
end FinA
end Go.Proofs.Ytcgkeolgflphiaa

namespace Go.Proofs.Ytcgkeolgflphiaa
open Go.RowKit Go.Proofs.YtcgkeolgflphiaaW.PrintWords Go.RegionInvYtcgkeolgflphiaa

theorem tq_may {v:Int} (hv:v≤1048576) {t:Tm} (h:mayT v t=0) (hc:tcan t=t):TqOk t:=by
 have h1:=mayT_fit hv h
 have h2:=FinA.may_ok h
 exact ⟨eqOk_of 64 h1.1 hc,by unfold okT;omega⟩
theorem tq_noT:TqOk noT:=by
 refine ⟨.mk (by show sz (.mk 0 0 [])≤5000;rw [sz_mk,szs_nil];omega) (fun x hx=>by cases hx) fun x hx=>(by cases hx),?_⟩
 have h1:=FinA.size_eq noT
 have h2:=FinA.depth_eq noT
 have e:List.finRange (nK noT)=[]:=rfl
 rw [e] at h1 h2
 unfold okT
 rw [h1,h2]
 decide
theorem mayCs_mem {v:Int}:∀ {cs:List Ct},mayCs v cs=0→∀ c∈cs,mayT v c.ty=0
 | [],_,c,hc=>by cases hc
 | x :: r,h,c,hc=>by
  unfold mayCs at h
  split at h
  ·exact absurd h (by decide)
  ·split at h
   ·rename_i h2;exact absurd h h2
   ·rename_i h2
    rcases List.mem_cons.1 hc with rfl | hc
    ·exact Classical.not_not.1 h2
    ·exact mayCs_mem h c hc
theorem map_fix {α:Type} {f:α→α} {l:List α} (h:l.map f=l):∀ x∈l,f x=x:=by
 intro x hx
 obtain ⟨i,hi,rfl⟩:=List.getElem_of_mem hx
 have h1:(l.map f)[i]'(by simpa using hi)=l[i]:=by simp only [h]
 simpa using h1
theorem dq_may {d:Dc} (h:mayD d=0) (hc:dcan d=d):DqOk d:=by
 have hf:=mayD_fit h
 have hv:=hf.v
 obtain ⟨k,nm,v,t,x,p,cs⟩:=d
 unfold dcan at hc
 injection hc with e1 e2 e3 e4 e5 e6 e7
 dsimp only at e1 e2 e3 e4 e5 e6 e7 hv
 refine ⟨tq_may (show v≤1048576 by omega) hf.ty e4,?_,?_⟩
 ·show TqOk x
  by_cases k2:k=2
  ·rw [if_pos k2] at e5;exact tq_may (show v≤1048576 by omega) (hf.val k2) e5
  ·rw [if_neg k2] at e5;rw [← e5];exact tq_noT
 ·show ∀ c∈cs,TqOk c.ty
  by_cases k3:k=3
  ·rw [if_pos k3] at e7
   intro c hc
   have h1:=map_fix e7 c hc
   have h2:tcan c.ty=c.ty:=by have:=congrArg Ct.ty h1;exact this
   exact tq_may (show v≤1048576 by omega) (mayCs_mem (hf.ind k3).2.2 c hc) h2
  ·rw [if_neg k3] at e7;rw [← e7];intro c hc;cases hc
theorem un_fix {xs:List Int} {l:List Dc} (hB:Bytes xs) (h:unR xs=.ok l):∀ d∈l,DqOk d:=by
 obtain ⟨h1,h2⟩:=un_put hB h
 rw [← h2,un_get h1] at h
 injection h with h
 intro d hd
 exact dq_may (mayAll_mem (bunE_0 h1).2.1 d hd) (map_fix h d hd)
end Go.Proofs.Ytcgkeolgflphiaa

namespace Go.Proofs.Ytcgkeolgflphiaa
open Go.RowKit Go.Proofs.YtcgkeolgflphiaaW.PrintWords Go.RegionInvYtcgkeolgflphiaa

theorem rr_new0 {w:World} {A:Option Addr} {n c:Nat} {xs:List Int} (h:Bs w w.heap.size A n c xs):RR (w.alloc (rrB A n c 0)) w.heap.size (.ok xs):=
 ⟨A,n,c,blk_new _ _,h.chg (S:=fun _=>False) (Nat.le_refl _) (fun _ h=>h.elim) (Chg.of_below (below_alloc (Below.refl _ _) _))⟩
structure QuSt (w:World) (g:Nat) (xs:List Int) (R:Except Int (List Dc × List Int)) (l:List Dc) (k:Nat):Prop where
 box:∃ A n c er,w.heap[g]?=some (rrB A n c er)∧(er=0→endR R=.ok l∧mayAll (l.drop k)=mayAll l)∧(er≠0→unR xs=.error er)
theorem quSt_start {w:World} {g:Nat} {xs:List Int} {R:Except Int (List Dc × List Int)} {l:List Dc} (hE:unR xs=match endR R with | .error e=>.error e | .ok l=>if mayAll l≠0 then .error (mayAll l) else .ok l) (h:RR w g (endS (restR R))) (hv:valIs l R):QuSt w g xs R l 0:=by
 cases hR:endR R with
 | error k =>
  rw [endS_err hR] at h
  rw [hR] at hE
  obtain ⟨hne,A,n,c,hg⟩:=h
  exact ⟨A,n,c,k,hg,fun e=>absurd e hne,fun _=>hE⟩
 | ok l' =>
  obtain ⟨hok,hes⟩:=endS_ok hR
  rw [hok] at hv
  obtain rfl:l=l':=hv
  rw [hes] at h
  obtain ⟨A,n,c,hg,-⟩:=h
  exact ⟨A,n,c,0,hg,fun _=>⟨hR,rfl⟩,fun e=>absurd rfl e⟩
theorem rowG_lo {P α:Type} {E:El P α} {w:World} {lo lo':Nat} {V:Value} {xs:List α} (hl:lo'≤lo) (h:RowG E w lo V xs):RowG E w lo' V xs:=by
 obtain ⟨cs,q,ho,hk⟩:=h
 exact ⟨cs,q,⟨ho.1,ho.2.imp id fun ⟨g,cap,cur,a,b,c⟩=>⟨g,cap,cur,a,Nat.le_trans hl b,c⟩⟩,fun i x hx=>⟨(hk i x hx).1,E.mono (hk i x hx).2 fun k hk _=>⟨by omega,hk.2⟩⟩⟩
theorem chg_drop1 {W1 w6 w3:World} {g:Nat} (h:Chg (fun k=>k=g) W1 w6) (h3:Chg (fun k=>g+1≤k) w6 w3) (hz:W1.heap.size=g+1):Chg (fun k=>k=g) W1 w3:=by
 refine ⟨h3.os.trans h.os,h3.tape.trans h.tape,h3.output.trans h.output,Nat.le_trans h.size h3.size,fun i hi hs=>?_⟩
 rw [h3.block i (Nat.lt_of_lt_of_le hi h.size) (by omega),h.block i hi hs]
set_option maxRecDepth 100000 in
set_option maxHeartbeats 8000000 in
theorem runbundle_calls (A:Option Addr) (n c:Nat) (xs:List Int) (w:World) (h:Bs w w.heap.size A n c xs) :
  Calls Try.prog 25 #[.slice A n c] w (UnP w (unR xs)):=by
 have HXN:=Ak h.reads.1
 have HR1:=Ak (rr_new0 h)
 have HB1:=Ak (below_alloc (Below.refl w.heap.size w) (rrB A n c 0))
 have HZ1:=Ak (show (w.alloc (rrB A n c 0)).heap.size=w.heap.size+1 by simp)
 clear h
 go_enter Try.func25,Try.ntmps25
 by_cases hbig:8192<n
 ·have hb':(8192:Int)<n:=by omega
  have HRE:=Ak (show unR xs=.error 2 by unfold unR;rw [if_pos (by rw [HXN.out];exact hbig)])
  go_wp2
  go_ret2
  exact ⟨_,[],2,rfl,RowG.nil _ _ _,Below.refl _ _,by rw [HRE.out];exact ⟨rfl,by decide,rfl⟩⟩
 ·have hb':¬ (8192:Int)<n:=by omega
  have HE:=Ak (unR_end xs (by rw [HXN.out];exact hbig))
  clear hbig
  go_upto_region 5 with (fail)
  obtain ⟨g,hg0⟩:∃ g,g=w.heap.size:=⟨_,rfl⟩
  have HG:=Ak hg0
  obtain ⟨W1,hW1⟩:∃ W1,W1=w.alloc (rrB A n c 0):=⟨_,rfl⟩
  rw [← hW1] at HR1 HB1 HZ1 ⊢
  rw [← hg0] at HR1 HZ1 ⊢
  clear hW1 hg0
  obtain ⟨Q1,hQ1⟩:∃ Q1,Q1=nextR (.ok xs) (rNumR 16 18):=⟨_,rfl⟩
  have HL1:=Ak (show listR 16 dcR xs=manyQ dcR Q1 (okNum Q1).toNat from manyQ_list (f:=dcR) hQ1)
  have HQ1:=Ak hQ1
  have hnb:=okNum_bound (over:=18) (.ok xs) (most:=16) (by decide) HR1.out.bytes
  rw [← hQ1] at hnb
  obtain ⟨nn,hnn⟩:∃ nn:Nat,(nn:Int)=okNum Q1:=⟨(okNum Q1).toNat,by omega⟩
  have HNQ:=Ak hnn
  have hn16:nn≤16:=by omega
  clear hQ1 hnn hnb
  go_upto_block 0 with (go_at_call 50;go_must (refine (rNumber_any g _ 16 18 _ HR1.out (by decide) (by decide) (by decide) (by decide) (by decide)).mono ?_;rintro e w2 ⟨rfl,hc2,hst2⟩;rw [← HQ1.out,← HNQ.out];have HC2:=Ak hc2;have HST2:=Ak (show RR w2 g (restR Q1) by rw [HQ1.out];exact hst2);clear hc2 hst2))
  go_cut [5] (fun V w5=>∃ l,l.length≤16∧Aside0 (RowG eDc w5 (g+1) V l)∧Aside0 (RR w5 g (restR (listR 16 dcR xs)))∧Aside0 (valIs l (listR 16 dcR xs))∧Aside0 (Chg (fun k=>k=g) W1 w5))
  case first =>
   go_wp2
   go_loopw [5,19] (fun V i wr=>∃ (j:Nat) (l:List Dc),i=.int .u64 j∧j≤nn∧l.length≤j∧Aside0 (j<nn→∃ rj,manyQ dcR Q1 j=.ok (l,rj))∧Aside0 (RowG eDc wr (g+1) V l)∧Aside0 (RR wr g (restR (manyQ dcR Q1 j)))∧Aside0 (valIs l (manyQ dcR Q1 j))∧Aside0 (Chg (fun k=>k=g) W1 wr)) (fun _ i _=>nn - (intOf i).toNat)
   case atStart=>exact ⟨0,[],rfl,Nat.zero_le _,Nat.le_refl _,⟨fun h=>by cases hr:Q1 with | error e=>rw [hr] at HNQ;have:=HNQ.out;simp only [okNum] at this;omega | ok x=>exact ⟨_,rfl⟩⟩,⟨RowG.nil _ _ _⟩,⟨by rw [(manyQ_0 dcR Q1).1];exact HST2.out⟩,⟨(manyQ_0 dcR Q1).2⟩,HC2⟩
   case round =>
    obtain ⟨j,l,rfl,hj,hlj,HOK,HROW,HRR,HV,HCH⟩:=hrel
    by_cases hlt:j<nn
    ·obtain ⟨rj,hrj⟩:=HOK.out hlt
     have HRJ:=Ak hrj
     have hrs:=HRR.out
     rw [hrj] at hrs
     have HRS:=Ak (show RR wr g (.ok rj) from hrs)
     have hzr:g+1≤wr.heap.size:=by have:=HCH.out.size;have:=HZ1.out;omega
     have hl16:l.length<16:=by omega
     clear hrj hrs
     go_upto_region 8 with (first
      | (go_at_call 44;go_must (refine (rdecl_any g (.ok rj) _ HRS.out).mono ?_;rintro e w6 ⟨P,d,rfl,hmem,hc6,hm6,hv6⟩;have HCH6:=Ak (chg_trans HCH.out hc6);have HM6:=Ak (eDc.beside HROW.out hzr hmem);have HNX:=Ak (manyQ_next (f:=dcR) HRJ.out hm6 hv6);have hz6:g+1≤w6.heap.size:=Nat.le_trans hzr hc6.size;have HR6:=Ak (HROW.out.keep hc6 (fun k e=>by omega));obtain ⟨cs,q,hown,hcs⟩:=HR6.out;have HOWN:=Ak hown;have HCS:=Ak hcs;clear hmem hc6 hm6 hv6 hown hcs;simp only [dcV]))
      | (at_builtin;go_must (refine print_append_cells (w0:=w6) (g+1) rfl (.tmp 21) (.tmp 24) 42 30 _ 21 304 rfl Try.underlying42 infoDcD rfl (by decide) (by decide) u5 l.length cs [.int .i64 d.kind,.string d.nm,.int .i64 d.vars,.int .i64 d.ty.kind,.int .i64 d.ty.num,.string d.ty.name,.int .i64 d.ty.lv.kind,.int .i64 d.ty.lv.num,.slice P.pt.A d.ty.lv.kids.length P.pt.c,.slice P.pt.B d.ty.ls.length P.pt.d,.slice P.pt.K d.ty.kids.length P.pt.e,.int .i64 d.val.kind,.int .i64 d.val.num,.string d.val.name,.int .i64 d.val.lv.kind,.int .i64 d.val.lv.num,.slice P.pv.A d.val.lv.kids.length P.pv.c,.slice P.pv.B d.val.ls.length P.pv.d,.slice P.pv.K d.val.kids.length P.pv.e,.int .i64 d.params,.slice P.C d.cs.length P.e] rfl rfl rfl (List.all_eq_true.1 rfl) HOWN.out (Below.refl _ _) hz6 (by omega) ?_;intro v3 w3 ho hb hg hat;have HO4:=Ak (RowG.push (E:=eDc) HOWN.out HCS.out HM6.out ho hg hat);have HRR4:=Ak (HNX.out.1.chg (S:=fun k=>g+1≤k) (fun k hk=>by omega) (chg_of_base hb));have HCH4:=Ak (chg_drop1 HCH6.out (chg_of_base hb) HZ1.out);clear ho hb hg hat)))
     have hst4:=HRR4.out
     obtain ⟨A6,n6,c6,e6,hg6,hbx6⟩:=hst4.box
     obtain ⟨-,b1,-,-⟩:=row2t hg6
     clear hg6
     cases hP:manyQ dcR Q1 (j+1) with
     | error er =>
      rw [hP] at hbx6
      obtain ⟨rfl,hne⟩:=hbx6
      have he:(e6 != 0)=true:=by simp [hne]
      have HLL:=Ak (show listR 16 dcR xs=.error e6 by rw [HL1.out,← HNQ.out,Int.toNat_natCast];exact manyQ_stop hP (by omega))
      have HST9:=Ak (show RR w3 g (restR (listR 16 dcR xs)) by rw [hP] at hst4;rw [HLL.out];exact hst4)
      clear hne hP hst4
      go_wp2
      go_meet
      case rel=>exact ⟨_,by rw [List.length_append];simp;omega,HO4,HST9,⟨by rw [HLL.out];trivial⟩,HCH4⟩
     | ok x =>
      rw [hP] at hbx6
      obtain ⟨rfl,-⟩:=hbx6
      have HOK2:=Ak (show j+1<nn→∃ rj,manyQ dcR Q1 (j+1)=.ok (l ++ [d],rj) from fun _=>⟨x.2,by have:=HNX.out.2;rw [hP] at this ⊢;rw [show l ++ [d]=x.1 from this]⟩)
      have HV2:=Ak HNX.out.2
      clear hP hst4
      go_wp2
      go_roundw
      case rel=>exact ⟨j+1,l ++ [d],by go_num,by omega,by rw [List.length_append];simp;omega,HOK2,HO4,HRR4,HV2,HCH4⟩
      case measure=>(simp [intOf];try omega)
    ·obtain rfl:j=nn:=by omega
     have hlt':decide ((j:Int)<j)=false:=by simp
     have HLL:=Ak (show listR 16 dcR xs=manyQ dcR Q1 j by rw [HL1.out,← HNQ.out,Int.toNat_natCast])
     go_wp2
     go_meet
     case rel=>exact ⟨l,by omega,HROW,⟨by rw [HLL.out];exact HRR.out⟩,⟨by rw [HLL.out];exact HV.out⟩,HCH⟩
  case rest =>
   obtain ⟨l,hl16,HROW,HRR,HV,HCH⟩:=hcut
   clear HR1 HL1 HQ1 HNQ HC2 HST2 hn16
   obtain ⟨L,ec,q,hu5,hle,hds⟩:=rowDc_dcs HROW.out
   subst hu5
   obtain ⟨m,hm⟩:∃ m,m=l.length:=⟨_,rfl⟩
   have HM:=Ak hm
   rw [← hm] at hle hl16 ⊢
   have HDS:=Ak hds
   have hm9:m≤9223372036854775807:=by omega
   clear hm hds
   go_upto_region 11 with (go_at_call 45;go_must (refine (rend_any g _ _ HRR.out).mono ?_;rintro e w7 ⟨rfl,hc,hst⟩;have HCH7:=Ak (chg_trans HCH.out hc);have HDS7:=Ak (HDS.out.same fun k hk hz=>hc.block k hz (by omega));have HROW7:=Ak (HROW.out.keep hc (fun k e=>by omega));have HQ7:=Ak (quSt_start HE.out hst HV.out);clear hc hst))
   have HUE:=HE
   clear HRR HV HCH HDS HROW HE
   go_wp2
   go_loopw [39] (fun i wr=>∃ k:Nat,i=.int .i64 k∧k≤m∧Aside0 (QuSt wr g xs (listR 16 dcR xs) l k)∧Aside0 (Chg (fun k=>k=g) w7 wr)) (fun i _=>m - (intOf i).toNat)
   case atStart=>exact ⟨0,rfl,Nat.zero_le _,HQ7,⟨⟨rfl,rfl,rfl,Nat.le_refl _,fun _ _ _=>rfl⟩⟩⟩
   case round =>
    obtain ⟨k,rfl,hk,HQ,HCR⟩:=hrel
    obtain ⟨A6,n6,c6,er,hg6,hz,hnz⟩:=HQ.out.box
    obtain ⟨-,b1,-,-⟩:=row2t hg6
    have HI:=Ak hg6
    have HZ:=Ak hz
    have HNZ:=Ak hnz
    clear hg6 hz hnz
    by_cases hlt:k<m
    ·have hlt2:k<l.length:=by rw [← HM.out];exact hlt
     obtain ⟨c,hc⟩:∃ c,l[k]?=some c:=⟨_,List.getElem?_eq_getElem hlt2⟩
     obtain ⟨⟨bk,o,hA,hSb,hcells⟩,hty⟩:=(HDS7.out.same (w':=wr) fun k hk hz=>HCR.out.block k hz (by omega)) k c hc
     have HAA:=Ak hA
     have HRG:=Ak (show wr.rangeAt bk (o+k * 21) (dcC (q k) c) from hcells)
     have HTY:=Ak hty
     have HDR:=Ak (drop_dc hc)
     rw [hA]
     clear hA hcells hc hlt2 hty
     go_upto_region 14 with (first
      | (refine wpList_load_mid rfl 30 _ rfl bk (o+k * 21) rfl [.int .i64 c.kind,.string c.nm,.int .i64 c.vars,.int .i64 c.ty.kind,.int .i64 c.ty.num,.string c.ty.name,.int .i64 c.ty.lv.kind,.int .i64 c.ty.lv.num,.slice (q k).pt.A c.ty.lv.kids.length (q k).pt.c,.slice (q k).pt.B c.ty.ls.length (q k).pt.d,.slice (q k).pt.K c.ty.kids.length (q k).pt.e,.int .i64 c.val.kind,.int .i64 c.val.num,.string c.val.name,.int .i64 c.val.lv.kind,.int .i64 c.val.lv.num,.slice (q k).pv.A c.val.lv.kids.length (q k).pv.c,.slice (q k).pv.B c.val.ls.length (q k).pv.d,.slice (q k).pv.K c.val.kids.length (q k).pv.e,.int .i64 c.params,.slice (q k).C c.cs.length (q k).e] _ HRG.out Try.underlying30 rfl (by kernel_rfl) ?_)
      | (refine wpList_store_row rfl 30 _ _ rfl (wr.heap.size) #[.int .i64 c.kind,.string c.nm,.int .i64 c.vars,.int .i64 c.ty.kind,.int .i64 c.ty.num,.string c.ty.name,.int .i64 c.ty.lv.kind,.int .i64 c.ty.lv.num,.slice (q k).pt.A c.ty.lv.kids.length (q k).pt.c,.slice (q k).pt.B c.ty.ls.length (q k).pt.d,.slice (q k).pt.K c.ty.kids.length (q k).pt.e,.int .i64 c.val.kind,.int .i64 c.val.num,.string c.val.name,.int .i64 c.val.lv.kind,.int .i64 c.val.lv.num,.slice (q k).pv.A c.val.lv.kids.length (q k).pv.c,.slice (q k).pv.B c.val.ls.length (q k).pv.d,.slice (q k).pv.K c.val.kids.length (q k).pv.e,.int .i64 c.params,.slice (q k).C c.cs.length (q k).e] rfl rfl 30 #[.int .i64 0,.string ⟨#[]⟩,.int .i64 0,.int .i64 0,.int .i64 0,.string ⟨#[]⟩,.int .i64 0,.int .i64 0,.slice none 0 0,.slice none 0 0,.slice none 0 0,.int .i64 0,.int .i64 0,.string ⟨#[]⟩,.int .i64 0,.int .i64 0,.slice none 0 0,.slice none 0 0,.slice none 0 0,.int .i64 0,.slice none 0 0] (blk_new _ _) (by kernel_rfl) rfl (all_one (l:=[.int .i64 c.kind,.string c.nm,.int .i64 c.vars,.int .i64 c.ty.kind,.int .i64 c.ty.num,.string c.ty.name,.int .i64 c.ty.lv.kind,.int .i64 c.ty.lv.num,.slice (q k).pt.A c.ty.lv.kids.length (q k).pt.c,.slice (q k).pt.B c.ty.ls.length (q k).pt.d,.slice (q k).pt.K c.ty.kids.length (q k).pt.e,.int .i64 c.val.kind,.int .i64 c.val.num,.string c.val.name,.int .i64 c.val.lv.kind,.int .i64 c.val.lv.num,.slice (q k).pv.A c.val.lv.kids.length (q k).pv.c,.slice (q k).pv.B c.val.ls.length (q k).pv.d,.slice (q k).pv.K c.val.kids.length (q k).pv.e,.int .i64 c.params,.slice (q k).C c.cs.length (q k).e]) rfl) ?_))
     obtain ⟨W5,hW5⟩:∃ W5,W5=(wr.alloc (.cells zdcA 30 (0,0))).setRow wr.heap.size (dcA (q k) c):=⟨_,rfl⟩
     have hs5:=dc_boxed wr (q k) c
     rw [← hW5] at hs5
     have HX5:=Ak hs5.1
     have HI5:=Ak (blk_below HI.out hs5.2)
     have HCR5:=Ak (chg_trans HCR.out (Chg.of_below hs5.2))
     have HTY5:=Ak (HTY.out.same fun k _ hk=>hs5.2.block k hk)
     have hgx:g≠wr.heap.size:=by have:=blk_lt HI.out;omega
     have HGX:=Ak hgx
     obtain ⟨gx,hgx2⟩:∃ gx,gx=wr.heap.size:=⟨_,rfl⟩
     unfold zdcA dcA at hW5
     rw [← hW5]
     rw [← hgx2] at HX5 HGX ⊢
     clear hW5 hs5 b1 HRG hgx hgx2
     obtain ⟨-,b1,-,-⟩:=row2t HI5.out
     by_cases he0:er=0
     ·subst he0
      obtain ⟨hok,hma⟩:=HZ.out rfl
      have HOK:=Ak hok
      have HMA:=Ak hma
      obtain ⟨em,hem⟩:∃ em,em=mayD c:=⟨_,rfl⟩
      have HEM:=Ak hem
      clear hok hma hem
      go_upto_region 16 with (first
       | (refine wpList_load_row rfl 30 _ rfl gx rfl 30 _ (0,0) _ HX5.out Try.underlying30 rfl (by kernel_rfl) ?_)
       | (go_at_call 14;go_must (refine (refmayd_calls c (q k) W5 (DcS.all HTY5.out)).mono ?_;rintro e w6 ⟨rfl,hb⟩;rw [← HEM.out];have HI6:=Ak (blk_below HI5.out hb);have HCR6:=Ak (chg_trans HCR5.out (Chg.of_below hb));clear hb b1;obtain ⟨-,b1,-,z1⟩:=row2t HI6.out)))
      have HI7:=Ak (rr2_1 (x:=.int .i64 em) HI6.out)
      have HCR7:=Ak (chg_trans HCR6.out (chg_set w6 g 1 (.int .i64 em)))
      have HQN:=Ak (show QuSt (w6.setCell ⟨g,1,none⟩ (.int .i64 em)) g xs (listR 16 dcR xs) l (k+1) from
       ⟨A6,n6,c6,em,HI7.out,fun e=>⟨HOK.out,by rw [← HMA.out,HDR.out,all_go (by rw [← HEM.out];exact e)]⟩,fun e=>by
        have hd:mayAll l=em:=by rw [← HMA.out,HDR.out,all_no (by rw [← HEM.out];exact e),HEM.out]
        rw [HUE.out,HOK.out]
        simp only [hd]
        rw [if_pos e]⟩)
      clear HQ HI HI5 HI6 HI7 HX5 b1 z1
      go_wp2
      go_roundw
      case rel=>exact ⟨k+1,by go_num,by omega,HQN,HCR7⟩
      case measure=>(simp [intOf];try omega)
     ·have he:(er == 0)=false:=by simp [he0]
      have HQN:=Ak (show QuSt W5 g xs (listR 16 dcR xs) l (k+1) from ⟨A6,n6,c6,er,HI5.out,fun e=>absurd e he0,HNZ.out⟩)
      clear he0 HQ HI
      go_wp2
      go_roundw
      case rel=>exact ⟨k+1,by go_num,by omega,HQN,HCR5⟩
      case measure=>(simp [intOf];try omega)
    ·obtain rfl:k=m:=by omega
     have hlt':decide ((k:Int)<k)=false:=by simp
     have HBF:=Ak (Chg.trans_below HB1.out (chg_trans HCH7.out HCR.out) (fun k e=>by have:=HG.out;omega) (by have:=HZ1.out;have:=HG.out;omega))
     by_cases he0:er=0
     ·subst he0
      obtain ⟨hok,hma⟩:=HZ.out rfl
      have HRE:=Ak (show unR xs=.ok l by
       have hd:mayAll l=0:=by rw [← hma,List.drop_of_length_le (by rw [← HM.out];exact Nat.le_refl _)];rfl
       rw [HUE.out,hok]
       simp only [hd]
       rw [if_neg (fun h=>h rfl)])
      have HROWF:=Ak ((HROW7.out.keep HCR.out (fun k e=>by omega)))
      clear hok hma
      go_wp2
      go_ret2
      exact ⟨_,l,0,rfl,rowG_lo (lo:=g+1) (by have:=HG.out;omega) (by rw [HM.out];exact HROWF.out),HBF.out,by rw [HRE.out];exact ⟨rfl,rfl⟩⟩
     ·have he:(er != 0)=true:=by simp [he0]
      have HRE:=Ak (HNZ.out he0)
      have HNE:=Ak he0
      clear he0
      go_upto_region 18 with (fail)
      refine rx18_region wr g n6 c6 A6 er HI.out ?_
      intro w8 hch
      have HB8:=Ak (below_then HBF.out HBF.out.size (hch.below (fun _ h=>h.elim False.elim False.elim) (Nat.le_refl _)))
      clear hch b1
      go_wp2
      go_ret2
      exact ⟨_,[],er,rfl,RowG.nil _ _ _,HB8.out,by rw [HRE.out];exact ⟨rfl,HNE.out,rfl⟩⟩
end Go.Proofs.Ytcgkeolgflphiaa

namespace Go.Proofs.Ytcgkeolgflphiaa
open Go.RowKit Go.Proofs.YtcgkeolgflphiaaW.PrintWords Go.RegionInvYtcgkeolgflphiaa Go.RegionEYtcgkeolgflphiaa
set_option linter.unusedVariables false

set_option maxRecDepth 100000 in
theorem run_elemDb {a:Act} {w:World} {o:Oper} {x y:Operand} {b off n c j:Nat} (ho:o.op=.indexAddr 42 x y) (hx:a.eval x=.slice (some ⟨b,off,none⟩) n c) (hy:a.eval y=.int .i64 j) (hj:j<n) :
  (execOp a.eval o).run Try.prog w=.ok (.value (.pointer (some ⟨b,off+j * 21,none⟩))) w:=by
 have hel:Try.prog.elem 42=30:=by simp [Program.elem,Try.underlying42]
 obtain ⟨i,hi,hz⟩:=Option.map_eq_some_iff.1 infoDcD
 have hs:i.size=21:=by injection hz with _ hz;injection hz
 unfold execOp;rw [ho];simp only [];rw [hx,hy]
 simp only [Sem.run_bind,Result.andThen_ok]
 rw [run_indexAt_slice w 42 ⟨b,off,none⟩ n c .i64 j (by rw [hel];exact Try.underlying42),if_pos (by omega),hel]
 simp [sizeOf,typeInfo,hi,hs,Result.andThen,add_flat]
theorem run_loadMb {a:Act} {w:World} {o:Oper} {x:Operand} {b off:Nat} {P:DPl} {d:Dc} (ho:o.op=.load 30 x) (hx:a.eval x=.pointer (some ⟨b,off,none⟩)) (h:w.rangeAt b off (dcC P d)):(execOp a.eval o).run Try.prog w=.ok (.value (dcV P d)) w:=by
 unfold execOp
 simp only [ho,hx,Instr.loadAt,Instr.sureAddr,Sem.run_bind,Sem.run_pure,Result.andThen_ok,run_loadVar_mid w b off 30 (dcC P d) _ h Try.underlying30 rfl (by kernel_rfl)]
 rfl

def dbu12_ops:List Oper:=[
 { dst:=some 65,op:=Go.Op.move (Go.Operand.tmp 9),type:=42,pos:= "law.go:83",after:=#[],guard:=none },
 { dst:=some 66,op:=Go.Op.move (Go.Operand.tmp 13),type:=3,pos:= "law.go:83",after:=#[],guard:=none },
 { dst:=some 67,op:=Go.Op.indexAddr 42 (Go.Operand.tmp 65) (Go.Operand.tmp 66),type:=0,pos:= "law.go:83",after:=#[{ on:=0,ground:=Go.Ground.data },{ on:=1,ground:=Go.Ground.data }],guard:=none },
 { dst:=some 68,op:=Go.Op.load 30 (Go.Operand.tmp 67),type:=30,pos:= "law.go:83",after:=#[{ on:=2,ground:=Go.Ground.data }],guard:=none },
 { dst:=some 69,op:=Go.Op.move (Go.Operand.tmp 11),type:=42,pos:= "law.go:83",after:=#[],guard:=none },
 { dst:=some 70,op:=Go.Op.move (Go.Operand.tmp 13),type:=3,pos:= "law.go:83",after:=#[],guard:=none },
 { dst:=some 71,op:=Go.Op.indexAddr 42 (Go.Operand.tmp 69) (Go.Operand.tmp 70),type:=0,pos:= "law.go:83",after:=#[{ on:=4,ground:=Go.Ground.data },{ on:=5,ground:=Go.Ground.data }],guard:=none },
 { dst:=some 72,op:=Go.Op.load 30 (Go.Operand.tmp 71),type:=30,pos:= "law.go:83",after:=#[{ on:=6,ground:=Go.Ground.data }],guard:=none },
 { dst:=some 73,op:=Go.Op.call { callee:=Go.Callee.value (Go.Operand.func 23),args:=#[Go.Operand.tmp 68,Go.Operand.tmp 72],argTypes:=#[30,30] },type:=4,pos:= "law.go:83",after:=#[{ on:=3,ground:=Go.Ground.data },{ on:=7,ground:=Go.Ground.data }],guard:=none },
 { dst:=some 74,op:=Go.Op.unOp Go.UnOp.not 4 (Go.Operand.tmp 73),type:=4,pos:= "law.go:83",after:=#[{ on:=8,ground:=Go.Ground.data }],guard:=none }]
def dbu12_F (w0:World) (b o b2 o2 i n e e2:Nat) (j:Nat) (d:Dc) (P P3:DPl):Nat→(Nat→Value)→Value→World→(Nat→Prop)→Prop:=fun rix=>match rix with
 | 0=>fun _ v _ _=>v=.slice (some ⟨b,o,none⟩) n e
 | 1=>fun _ v _ _=>v=.int .i64 j
 | 2=>fun _ v _ _=>v=.pointer (some ⟨b,o+j * 21,none⟩)
 | 3=>fun _ v _ _=>v=dcV P d
 | 4=>fun _ v _ _=>v=.slice (some ⟨b2,o2,none⟩) n e2
 | 5=>fun _ v _ _=>v=.int .i64 j
 | 6=>fun _ v _ _=>v=.pointer (some ⟨b2,o2+j * 21,none⟩)
 | 7=>fun _ v _ _=>v=dcV P3 d
 | 8=>fun _ v _ _=>v=.bool true
 | 9=>fun _ v _ _=>v=.bool false
 | _=>fun _ _ _ _=>True
def dbu12_C:Nat→List Nat:=fun rix=>match rix with
 | _=>[]
theorem dbu12_nw9:nwB dbu12_ops.toArray 9=true:=by kernel_rfl
theorem dbu12_nw11:nwB dbu12_ops.toArray 11=true:=by kernel_rfl
theorem dbu12_nw13:nwB dbu12_ops.toArray 13=true:=by kernel_rfl
set_option maxRecDepth 100000 in
set_option maxHeartbeats 8000000 in
theorem dbu12_obs (w0:World) (b o b2 o2 i n e e2:Nat) (j:Nat) (d:Dc) (P P3:DPl) (hX:w0.rangeAt b (o+j * 21) (dcC P d)) (hY:w0.rangeAt b2 (o2+j * 21) (dcC P3 d)) (hin:DcIn w0 w0.heap.size P d) (hin2:DcIn w0 w0.heap.size P3 d) (hok:DqOk d) (hj:j<n) (Q:Exit→Act→World→Prop) (a0:Act) (hi9:a0.tmps.getD 9 undef=.slice (some ⟨b,o,none⟩) n e) (hi11:a0.tmps.getD 11 undef=.slice (some ⟨b2,o2,none⟩) n e2) (hi13:a0.tmps.getD 13 undef=.int .i64 j) :
  ObsE Try.prog dbu12_ops.toArray Q (est2 0 0 (fun _=>False) (fun _=>False)) dbu12_C (dbu12_F w0 b o b2 o2 i n e e2 j d P P3) a0 w0 dbu12_ops.toArray.toList 0:=by
 have nw9:=dbu12_nw9
 have nw11:=dbu12_nw11
 have nw13:=dbu12_nw13
 refine ⟨?_,?_,?_,?_,?_,?_,?_,?_,?_,?_,trivial⟩
 ·refine ⟨⟨fun τ=>stableE_det _,leans_not⟩,?_⟩
  intro a w O hk
  have e9:a.eval (.tmp 9)=.slice (some ⟨b,o,none⟩) n e:=(hk.init 9 (initialB_of_nw nw9)).trans hi9
  exact toE (ob_move rfl e9 (wanted_none rfl) rfl)
 ·refine ⟨⟨fun τ=>stableE_det _,leans_not⟩,?_⟩
  intro a w O hk
  have e13:a.eval (.tmp 13)=.int .i64 j:=(hk.init 13 (initialB_of_nw nw13)).trans hi13
  exact toE (ob_move rfl e13 (wanted_none rfl) rfl)
 ·refine ⟨⟨fun τ=>stableE_det _,leans_not⟩,?_⟩
  intro a w O hk
  have e65:a.eval (.tmp 65)=.slice (some ⟨b,o,none⟩) n e:=hk.fact 0 _ 65 rfl rfl rfl rfl
  have e66:a.eval (.tmp 66)=.int .i64 j:=hk.fact 1 _ 66 rfl rfl rfl rfl
  exact obE_run (wanted_none rfl) (run_elemDb rfl e65 e66 hj) rfl
 ·refine ⟨⟨fun τ=>stableE_det _,leans_not⟩,?_⟩
  intro a w O hk
  have e67:a.eval (.tmp 67)=.pointer (some ⟨b,o+j * 21,none⟩):=hk.fact 2 _ 67 rfl rfl rfl rfl
  have xx:w.rangeAt b (o+j * 21) (dcC P d):=fun k v hv=>(cell_same ((hk.world.below (fun k ⟨_,h⟩=>h.elim (fun h=>h.2.elim) fun h=>h.2.elim) (Nat.le_refl _)).block b (World.block_lt_of_cell? w0 _ (hX 0 _ rfl)))).trans (hX k v hv)
  exact obE_run (wanted_none rfl) (run_loadMb rfl e67 xx) rfl
 ·refine ⟨⟨fun τ=>stableE_det _,leans_not⟩,?_⟩
  intro a w O hk
  have e11:a.eval (.tmp 11)=.slice (some ⟨b2,o2,none⟩) n e2:=(hk.init 11 (initialB_of_nw nw11)).trans hi11
  exact toE (ob_move rfl e11 (wanted_none rfl) rfl)
 ·refine ⟨⟨fun τ=>stableE_det _,leans_not⟩,?_⟩
  intro a w O hk
  have e13:a.eval (.tmp 13)=.int .i64 j:=(hk.init 13 (initialB_of_nw nw13)).trans hi13
  exact toE (ob_move rfl e13 (wanted_none rfl) rfl)
 ·refine ⟨⟨fun τ=>stableE_det _,leans_not⟩,?_⟩
  intro a w O hk
  have e69:a.eval (.tmp 69)=.slice (some ⟨b2,o2,none⟩) n e2:=hk.fact 4 _ 69 rfl rfl rfl rfl
  have e70:a.eval (.tmp 70)=.int .i64 j:=hk.fact 5 _ 70 rfl rfl rfl rfl
  exact obE_run (wanted_none rfl) (run_elemDb rfl e69 e70 hj) rfl
 ·refine ⟨⟨fun τ=>stableE_det _,leans_not⟩,?_⟩
  intro a w O hk
  have e71:a.eval (.tmp 71)=.pointer (some ⟨b2,o2+j * 21,none⟩):=hk.fact 6 _ 71 rfl rfl rfl rfl
  have xx:w.rangeAt b2 (o2+j * 21) (dcC P3 d):=fun k v hv=>(cell_same ((hk.world.below (fun k ⟨_,h⟩=>h.elim (fun h=>h.2.elim) fun h=>h.2.elim) (Nat.le_refl _)).block b2 (World.block_lt_of_cell? w0 _ (hY 0 _ rfl)))).trans (hY k v hv)
  exact obE_run (wanted_none rfl) (run_loadMb rfl e71 xx) rfl
 ·refine ⟨⟨fun τ=>stableE_det _,leans_not⟩,?_⟩
  intro a w O hk
  have e68:a.eval (.tmp 68)=dcV P d:=hk.fact 3 _ 68 rfl rfl rfl rfl
  have e72:a.eval (.tmp 72)=dcV P3 d:=hk.fact 7 _ 72 rfl rfl rfl rfl
  have hc:=dEqual_self d hok P P3 w (DcS.all (DcIn.stay hin (hk.world.below (fun k ⟨_,h⟩=>h.elim (fun h=>h.2.elim) fun h=>h.2.elim) (Nat.le_refl _)))) (DcS.all (DcIn.stay hin2 (hk.world.below (fun k ⟨_,h⟩=>h.elim (fun h=>h.2.elim) fun h=>h.2.elim) (Nat.le_refl _))))
  exact obE_callV #[dcV P d,dcV P3 d] rfl rfl rfl rfl (by simp only [List.map_cons,List.map_nil];rw [e68,e72]) (wanted_none rfl) hc
 ·refine ⟨⟨fun τ=>stableE_det _,leans_not⟩,?_⟩
  intro a w O hk
  have e73:a.eval (.tmp 73)=.bool true:=hk.fact 8 _ 73 rfl rfl rfl rfl
  exact obE_run (wanted_none rfl) (by unfold execOp;simp only [];rw [e73];go_simp) rfl
set_option maxRecDepth 100000 in
set_option maxHeartbeats 8000000 in
theorem dbu12_region {Q:Exit→Act→World→Prop} {id:Nat} (w0:World) (b o b2 o2 i n e e2:Nat) (j:Nat) (d:Dc) (P P3:DPl) {s0 s1 s2 s3 s4 s5 s6 s7 s8 s10 s12 s14 s15 s16 s17 s18 s19 s20 s21 s22 s23 s24 s25 s26 s27 s28 s29 s30 s31 s32 s33 s34 s35 s36 s37 s38 s39 s40 s41 s42 s43 s44 s45 s46 s47 s48 s49 s50 s51 s52 s53 s54 s55 s56 s57 s58 s59 s60 s61 s62 s63 s64 s65 s66 s67 s68 s69 s70 s71 s72 s73 s74 s75 s76:Value} (hX:w0.rangeAt b (o+j * 21) (dcC P d)) (hY:w0.rangeAt b2 (o2+j * 21) (dcC P3 d)) (hin:DcIn w0 w0.heap.size P d) (hin2:DcIn w0 w0.heap.size P3 d) (hok:DqOk d) (hj:j<n)
  (hend:∀ (w':World),Chg (fun k=>False∨False) w0 w'→Q .normal { tmps:=(s0 :: s1 :: s2 :: s3 :: s4 :: s5 :: s6 :: s7 :: s8 :: (.slice (some ⟨b,o,none⟩) n e) :: s10 :: (.slice (some ⟨b2,o2,none⟩) n e2) :: s12 :: (.int .i64 j) :: s14 :: s15 :: s16 :: s17 :: s18 :: s19 :: s20 :: s21 :: s22 :: s23 :: s24 :: s25 :: s26 :: s27 :: s28 :: s29 :: s30 :: s31 :: s32 :: s33 :: s34 :: s35 :: s36 :: s37 :: s38 :: s39 :: s40 :: s41 :: s42 :: s43 :: s44 :: s45 :: s46 :: s47 :: s48 :: s49 :: s50 :: s51 :: s52 :: s53 :: s54 :: s55 :: s56 :: s57 :: s58 :: s59 :: s60 :: s61 :: s62 :: s63 :: s64 :: (.slice (some ⟨b,o,none⟩) n e) :: (.int .i64 j) :: (.pointer (some ⟨b,o+j * 21,none⟩)) :: (dcV P d) :: (.slice (some ⟨b2,o2,none⟩) n e2) :: (.int .i64 j) :: (.pointer (some ⟨b2,o2+j * 21,none⟩)) :: (dcV P3 d) :: (.bool true) :: (.bool false) :: s75 :: s76 :: []:List Value).toArray,defers:=[] } w') :
  (Code.region id dbu12_ops.toArray true).wp Try.prog Q { tmps:=(s0 :: s1 :: s2 :: s3 :: s4 :: s5 :: s6 :: s7 :: s8 :: (.slice (some ⟨b,o,none⟩) n e) :: s10 :: (.slice (some ⟨b2,o2,none⟩) n e2) :: s12 :: (.int .i64 j) :: s14 :: s15 :: s16 :: s17 :: s18 :: s19 :: s20 :: s21 :: s22 :: s23 :: s24 :: s25 :: s26 :: s27 :: s28 :: s29 :: s30 :: s31 :: s32 :: s33 :: s34 :: s35 :: s36 :: s37 :: s38 :: s39 :: s40 :: s41 :: s42 :: s43 :: s44 :: s45 :: s46 :: s47 :: s48 :: s49 :: s50 :: s51 :: s52 :: s53 :: s54 :: s55 :: s56 :: s57 :: s58 :: s59 :: s60 :: s61 :: s62 :: s63 :: s64 :: s65 :: s66 :: s67 :: s68 :: s69 :: s70 :: s71 :: s72 :: s73 :: s74 :: s75 :: s76 :: []:List Value).toArray,defers:=[] } w0:=by
 refine wp_region_est (by kernel_rfl) (est2 0 0 (fun _=>False) (fun _=>False)) dbu12_C (dbu12_F w0 b o b2 o2 i n e e2 j d P P3) (est2_dis (fun _ h _=>h)) (est2_range (fun _ h=>h.elim) (fun _ h=>h.elim)) (by rfl) (by kernel_rfl) (dbu12_obs w0.drew b o b2 o2 i n e e2 j d P P3 (fun k v hv=>hX k v hv) (fun k v hv=>hY k v hv) (DcS.same hin (fun _ _ _=>rfl)) (DcS.same hin2 (fun _ _ _=>rfl)) hok hj _ _ rfl rfl rfl) ?_
 intro a w' O hd hs hb hf hf2 ha hsame
 have hl:=slots_eq (ops:=dbu12_ops.toArray) [(65,.slice (some ⟨b,o,none⟩) n e),(66,.int .i64 j),(67,.pointer (some ⟨b,o+j * 21,none⟩)),(68,dcV P d),(69,.slice (some ⟨b2,o2,none⟩) n e2),(70,.int .i64 j),(71,.pointer (some ⟨b2,o2+j * 21,none⟩)),(72,dcV P3 d),(73,.bool true),(74,.bool false)] (show a.tmps.size=77 from hs) (fun i h=>hsame i h) ⟨(hf 0 _ 65 rfl rfl (by decide)).1,(hf 1 _ 66 rfl rfl (by decide)).1,(hf 2 _ 67 rfl rfl (by decide)).1,(hf 3 _ 68 rfl rfl (by decide)).1,(hf 4 _ 69 rfl rfl (by decide)).1,(hf 5 _ 70 rfl rfl (by decide)).1,(hf 6 _ 71 rfl rfl (by decide)).1,(hf 7 _ 72 rfl rfl (by decide)).1,(hf 8 _ 73 rfl rfl (by decide)).1,(hf 9 _ 74 rfl rfl (by decide)).1,trivial⟩ (by kernel_rfl)
 obtain ⟨tmps,defers⟩:=a
 obtain rfl:defers=[]:=hd
 have hl':tmps=_:=hl
 rw [hl']
 have hb':=est2_chg hb
 refine Eq.mp ?_ (hend w' ⟨hb'.os,hb'.tape,hb'.output,hb'.size,hb'.block⟩)
 kernel_rfl

end Go.Proofs.Ytcgkeolgflphiaa

namespace Go.Proofs.Ytcgkeolgflphiaa
open Go.RowKit Go.Proofs.YtcgkeolgflphiaaW.PrintWords Go.RegionInvYtcgkeolgflphiaa

theorem bs_arg {w:World} {A:Option Addr} {n c:Nat} {xs:List Int} (hr:ReadsInt w .u8 A n xs) (hc:n≤c) (hB:Bytes xs) (hl:n≤140737488355000):Bs w w.heap.size A n c xs:=
 ⟨hc,hr,fun i hi=>by
  obtain ⟨ad,e,hx⟩:=hr.at_ 0 (Int.le_refl 0) (by omega)
  have:=World.block_lt_of_cell? w _ hx
  have hbl:(ad.add (Int.toNat 0)).block=ad.block:=by unfold Addr.add;split <;> rfl
  exact ⟨ad,e,by omega⟩,hB,hl⟩
end Go.Proofs.Ytcgkeolgflphiaa

namespace Go.Proofs.Ytcgkeolgflphiaa
open Go.RowKit Go.Proofs.YtcgkeolgflphiaaW.PrintWords Go.RegionInvYtcgkeolgflphiaa

def lightB (ds:List Dc):Bool:=decide (ds.length≤20) && ds.all fun d=>decide (d.cs.length≤20)
theorem light_long {ds:List Dc} (h:20<ds.length):lightB ds=false:=by
 unfold lightB;rw [decide_eq_false (by omega)];rfl
theorem light_heavy {ds:List Dc} {k:Nat} {c:Dc} (h:ds[k]?=some c) (hc:20<c.cs.length):lightB ds=false:=by
 unfold lightB
 rw [Bool.and_eq_false_iff]
 refine .inr ?_
 rw [List.all_eq_false]
 exact ⟨c,List.mem_of_getElem? h,by simp;omega⟩
theorem light_yes {ds:List Dc} (h:ds.length≤20) (hc:∀ (i:Nat) (c:Dc),ds[i]?=some c→c.cs.length≤20):lightB ds=true:=by
 unfold lightB
 rw [decide_eq_true h,Bool.true_and,List.all_eq_true]
 intro c hm
 obtain ⟨i,hi⟩:=List.getElem?_of_mem hm
 exact decide_eq_true (hc i c hi)
set_option maxRecDepth 100000 in
set_option maxHeartbeats 8000000 in
theorem light_calls (ds:List Dc) (L:Option Addr) (n e:Nat) (q:Nat→DPl) (w:World) (hn:n=ds.length) (hin:DcsS w (fun _=>True) L q ds) (hn9:n≤9223372036854775807) :
  Calls Try.prog 26 #[.slice L n e] w fun e w'=>e=.returned (.bool (lightB ds))∧Below w.heap.size w w':=by
 have HIN:=Ak hin
 have HM:=Ak hn
 clear hin hn
 go_enter Try.func26,Try.ntmps26
 go_wp2
 go_loopw [7] (fun i wr=>∃ k:Nat,i=.int .i64 k∧k≤n∧k≤20∧Aside0 (∀ (i:Nat) (c:Dc),i<k→ds[i]?=some c→c.cs.length≤20)∧Aside0 (Below w.heap.size w wr)) (fun i _=>n - (intOf i).toNat)
 case atStart=>exact ⟨0,rfl,Nat.zero_le _,Nat.zero_le _,⟨fun i c h=>by omega⟩,⟨Below.refl _ _⟩⟩
 case round =>
  obtain ⟨k,rfl,hk,hk20,HLK,HBR⟩:=hrel
  by_cases hlt:k<n
  ·have hlt2:k<ds.length:=by rw [← HM.out];exact hlt
   obtain ⟨c,hc⟩:∃ c,ds[k]?=some c:=⟨_,List.getElem?_eq_getElem hlt2⟩
   obtain ⟨⟨bk,o,hA,-,hcells⟩,hty⟩:=(HIN.out.mono (S':=fun k=>k<w.heap.size) fun _ _ h=>h).same (w':=wr) (fun j hj _=>HBR.out.block j hj) k c hc
   have HRG:=Ak (show wr.rangeAt bk (o+k * 21) (dcC (q k) c) from hcells)
   have HC:=Ak hc
   have hlen:=hty.len
   have hl9:c.cs.length≤9223372036854775807:=by omega
   rw [hA]
   have HA:=Ak hA
   clear hA hcells hc hlt2 hty hlen
   go_upto_region 4 with (first
    | (refine wpList_load_mid rfl 30 _ rfl bk (o+k * 21) rfl [.int .i64 c.kind,.string c.nm,.int .i64 c.vars,.int .i64 c.ty.kind,.int .i64 c.ty.num,.string c.ty.name,.int .i64 c.ty.lv.kind,.int .i64 c.ty.lv.num,.slice (q k).pt.A c.ty.lv.kids.length (q k).pt.c,.slice (q k).pt.B c.ty.ls.length (q k).pt.d,.slice (q k).pt.K c.ty.kids.length (q k).pt.e,.int .i64 c.val.kind,.int .i64 c.val.num,.string c.val.name,.int .i64 c.val.lv.kind,.int .i64 c.val.lv.num,.slice (q k).pv.A c.val.lv.kids.length (q k).pv.c,.slice (q k).pv.B c.val.ls.length (q k).pv.d,.slice (q k).pv.K c.val.kids.length (q k).pv.e,.int .i64 c.params,.slice (q k).C c.cs.length (q k).e] _ HRG.out Try.underlying30 rfl (by kernel_rfl) ?_)
    | (refine wpList_store_row rfl 30 _ _ rfl wr.heap.size #[.int .i64 c.kind,.string c.nm,.int .i64 c.vars,.int .i64 c.ty.kind,.int .i64 c.ty.num,.string c.ty.name,.int .i64 c.ty.lv.kind,.int .i64 c.ty.lv.num,.slice (q k).pt.A c.ty.lv.kids.length (q k).pt.c,.slice (q k).pt.B c.ty.ls.length (q k).pt.d,.slice (q k).pt.K c.ty.kids.length (q k).pt.e,.int .i64 c.val.kind,.int .i64 c.val.num,.string c.val.name,.int .i64 c.val.lv.kind,.int .i64 c.val.lv.num,.slice (q k).pv.A c.val.lv.kids.length (q k).pv.c,.slice (q k).pv.B c.val.ls.length (q k).pv.d,.slice (q k).pv.K c.val.kids.length (q k).pv.e,.int .i64 c.params,.slice (q k).C c.cs.length (q k).e] rfl rfl 30 #[.int .i64 0,.string ⟨#[]⟩,.int .i64 0,.int .i64 0,.int .i64 0,.string ⟨#[]⟩,.int .i64 0,.int .i64 0,.slice none 0 0,.slice none 0 0,.slice none 0 0,.int .i64 0,.int .i64 0,.string ⟨#[]⟩,.int .i64 0,.int .i64 0,.slice none 0 0,.slice none 0 0,.slice none 0 0,.int .i64 0,.slice none 0 0] (blk_new _ _) (by kernel_rfl) rfl (all_one (l:=[.int .i64 c.kind,.string c.nm,.int .i64 c.vars,.int .i64 c.ty.kind,.int .i64 c.ty.num,.string c.ty.name,.int .i64 c.ty.lv.kind,.int .i64 c.ty.lv.num,.slice (q k).pt.A c.ty.lv.kids.length (q k).pt.c,.slice (q k).pt.B c.ty.ls.length (q k).pt.d,.slice (q k).pt.K c.ty.kids.length (q k).pt.e,.int .i64 c.val.kind,.int .i64 c.val.num,.string c.val.name,.int .i64 c.val.lv.kind,.int .i64 c.val.lv.num,.slice (q k).pv.A c.val.lv.kids.length (q k).pv.c,.slice (q k).pv.B c.val.ls.length (q k).pv.d,.slice (q k).pv.K c.val.kids.length (q k).pv.e,.int .i64 c.params,.slice (q k).C c.cs.length (q k).e]) rfl) ?_))
   have hbx:=dc_boxed wr (q k) c
   obtain ⟨W5,hW5⟩:∃ W5,W5=(wr.alloc (.cells #[.int .i64 0,.string ⟨#[]⟩,.int .i64 0,.int .i64 0,.int .i64 0,.string ⟨#[]⟩,.int .i64 0,.int .i64 0,.slice none 0 0,.slice none 0 0,.slice none 0 0,.int .i64 0,.int .i64 0,.string ⟨#[]⟩,.int .i64 0,.int .i64 0,.slice none 0 0,.slice none 0 0,.slice none 0 0,.int .i64 0,.slice none 0 0] 30 (0,0))).setRow wr.heap.size #[.int .i64 c.kind,.string c.nm,.int .i64 c.vars,.int .i64 c.ty.kind,.int .i64 c.ty.num,.string c.ty.name,.int .i64 c.ty.lv.kind,.int .i64 c.ty.lv.num,.slice (q k).pt.A c.ty.lv.kids.length (q k).pt.c,.slice (q k).pt.B c.ty.ls.length (q k).pt.d,.slice (q k).pt.K c.ty.kids.length (q k).pt.e,.int .i64 c.val.kind,.int .i64 c.val.num,.string c.val.name,.int .i64 c.val.lv.kind,.int .i64 c.val.lv.num,.slice (q k).pv.A c.val.lv.kids.length (q k).pv.c,.slice (q k).pv.B c.val.ls.length (q k).pv.d,.slice (q k).pv.K c.val.kids.length (q k).pv.e,.int .i64 c.params,.slice (q k).C c.cs.length (q k).e]:=⟨_,rfl⟩
   replace hbx:W5.heap[wr.heap.size]?=some (dcO (q k) c)∧Below wr.heap.size wr W5:=by rw [hW5];exact hbx
   rw [← hW5]
   have HB5:=Ak (below_then HBR.out HBR.out.size hbx.2)
   have d20:W5.cell? ⟨wr.heap.size,20,none⟩=some (.slice (q k).C c.cs.length (q k).e):=by rw [cell_of_row _ _ _ _ _ _ hbx.1];rfl
   clear hW5 hbx
   obtain ⟨m,hm⟩:∃ m,m=c.cs.length:=⟨_,rfl⟩
   rw [← hm] at d20 hl9
   have HMM:=Ak hm
   clear hm
   by_cases h20:k=20
   ·subst h20
    have HF:=Ak (light_long (ds:=ds) (by rw [← HM.out];exact hlt))
    go_wp2
    go_ret
    exact ⟨by rw [HF.out];rfl,HB5.out⟩
   ·have h20':¬ ((20:Int)≤k):=by omega
    by_cases hc:20<m
    ·have hc':(20:Int)<m:=by omega
     have HF:=Ak (light_heavy HC.out (by rw [← HMM.out];exact hc))
     go_wp2
     go_ret
     exact ⟨by rw [HF.out];rfl,HB5.out⟩
    ·have hc':¬ (20:Int)<m:=by omega
     go_wp2
     go_roundw
     case rel=>exact ⟨k+1,by go_num,by omega,by omega,⟨fun i c' h1 h2=>by
      rcases Nat.lt_or_ge i k with h | h
      ·exact HLK.out i c' h h2
      ·obtain rfl:i=k:=by omega
       rw [HC.out] at h2;obtain rfl:=Option.some.inj h2;rw [← HMM.out];omega⟩,HB5⟩
     case measure=>(simp [intOf];try omega)
  ·obtain rfl:k=n:=by omega
   have hlt':decide ((k:Int)<k)=false:=by simp
   go_wp2
   go_ret
   exact ⟨by rw [light_yes (by rw [← HM.out];exact hk20) (fun i c h=>HLK.out i c (by have:=(List.getElem?_eq_some_iff.1 h).1;rw [HM.out];exact this) h)];rfl,HBR.out⟩
end Go.Proofs.Ytcgkeolgflphiaa

namespace Go.Proofs.Ytcgkeolgflphiaa
open Go.RowKit Go.Proofs.YtcgkeolgflphiaaW.PrintWords Go.RegionInvYtcgkeolgflphiaa

theorem endu_ok {l:List Dc} {er:Int} {xs:List Int} (hB:Bytes xs) (h:EndU l er (unR xs)):∀ d∈l,DqOk d:=by
 cases hR:unR xs with
 | error k=>rw [hR] at h;obtain ⟨-,-,rfl⟩:=h;intro d hd;cases hd
 | ok l'=>rw [hR] at h;obtain ⟨rfl,-⟩:=h;exact un_fix hB hR
theorem endu_eq {l l':List Dc} {er er':Int} {R:Except Int (List Dc)} (h:EndU l er R) (h':EndU l' er' R):l=l'∧er=er':=by
 cases R with
 | error k=>obtain ⟨rfl,-,rfl⟩:=h;obtain ⟨rfl,-,rfl⟩:=h';exact ⟨rfl,rfl⟩
 | ok y=>obtain ⟨rfl,rfl⟩:=h;obtain ⟨rfl,rfl⟩:=h';exact ⟨rfl,rfl⟩
theorem dcs_all {w W:World} {L:Option Addr} {q:Nat→DPl} {ds:List Dc} (hb:Below w.heap.size w W) (h:DcsS w (fun k=>k<w.heap.size) L q ds):DcsS W (fun k=>k<W.heap.size) L q ds:=(h.same fun k hk _=>hb.block k hk).mono fun _ _ hz=>hz
set_option maxRecDepth 100000 in
set_option maxHeartbeats 8000000 in
theorem declBundles_calls (as_:List Dc) (La:Option Addr) (na ea:Nat) (qa:Nat→DPl) (A:Option Addr) (n c:Nat) (xs:List Int) (w:World) (hna:na=as_.length) (hna9:na≤9223372036854775807) (hda:DcsS w (fun k=>k<w.heap.size) La qa as_) (h:Bs w w.heap.size A n c xs) :
  Calls Try.prog 7 #[.slice La na ea,.slice A n c] w fun e w'=>e=.returned (.bool true)∧Below w.heap.size w w':=by
 have HDA:=Ak hda
 have HNA:=Ak hna
 have HS:=Ak h
 have HBY:=Ak h.bytes
 clear hda hna h
 go_enter Try.func7,Try.ntmps7
 cases hla:lightB as_ with
 | false =>
  have HLA:=Ak hla
  clear hla
  go_wp2_with (first
   | (go_at_call 26;go_must (refine (light_calls as_ La na ea qa w HNA.out (HDA.out.mono fun _ _ _=>trivial) hna9).mono ?_;rintro e w2 ⟨rfl,hb⟩;rw [HLA.out];have HB2:=Ak hb;clear hb))
   | (go_at_call 15;go_must (refine (awake_calls _).mono ?_;rintro e wz ⟨rfl,hbz⟩;have HBZ:=Ak (below_then HB2.out HB2.out.size hbz);clear hbz)))
  go_ret
  exact ⟨rfl,HBZ.out⟩
 | true =>
  have HLA:=Ak hla
  clear hla
  obtain ⟨eA,hEA⟩:∃ eA,eA=bunE as_:=⟨_,rfl⟩
  have HEA:=Ak hEA
  clear hEA
  go_upto_region 4 with (first
   | (go_at_call 26;go_must (refine (light_calls as_ La na ea qa w HNA.out (HDA.out.mono fun _ _ _=>trivial) hna9).mono ?_;rintro e w2 ⟨rfl,hb⟩;rw [HLA.out];have HB2:=Ak hb;clear hb))
   | (go_at_call 19;go_must (refine (bundle_calls as_ La na ea qa w2 HNA.out (dcs_all HB2.out HDA.out) hna9).mono ?_;rintro e w3 ⟨v3,rfl,ho,hb⟩;rw [← HEA.out];obtain ⟨A1,c1,rfl,hr⟩:=own_reads ho;have HR1:=Ak hr;have HB3:=Ak (below_then HB2.out HB2.out.size hb);clear ho hb hr)))
  obtain ⟨n1,hn1⟩:∃ n1,n1=(bunB as_).length:=⟨_,rfl⟩
  rw [← hn1] at HR1 ⊢
  have HN1:=Ak hn1
  clear hn1
  go_upto_region 5 with (go_at_call 20;go_must (refine (refBundle_calls as_ La na ea qa w3 HNA.out (dcs_all HB3.out HDA.out) hna9).mono ?_;rintro e w4 ⟨v4,rfl,ho,hb⟩;rw [← HEA.out];obtain ⟨A2,c2,rfl,hr⟩:=own_reads ho;rw [← HN1.out] at hr ⊢;have HR2:=Ak hr;have HR14:=Ak (HR1.out.below hb);have HB4:=Ak (below_then HB3.out HB3.out.size hb);clear ho hb hr))
  go_upto_region 6 with (go_at_call 24;go_must (refine (unbundle_calls A n c xs _ ((HS.out.chg (S:=fun k=>w.heap.size≤k) (Nat.le_refl _) (fun _ h=>h) (chg_of_base HB4.out)).mono HB4.out.size)).mono ?_;rintro e w5 ⟨V5,l5,er5,rfl,hrow,hb,htk⟩;obtain ⟨L5,e5,q5,rfl,hle,hds⟩:=rowDc_dcs hrow;have HLE:=Ak hle;have HDS:=Ak hds;have HR15:=Ak (HR14.out.below hb);have HR25:=Ak (HR2.out.below hb);have HB5:=Ak (below_then HB4.out HB4.out.size hb);have HTK:=Ak htk;clear hrow hb htk hle hds))
  go_upto_region 7 with (go_at_call 25;go_must (refine (runbundle_calls A n c xs _ ((HS.out.chg (S:=fun k=>w.heap.size≤k) (Nat.le_refl _) (fun _ h=>h) (chg_of_base HB5.out)).mono HB5.out.size)).mono ?_;rintro e w6 ⟨V6,l6,er6,rfl,hrow,hb,htk⟩;obtain ⟨L6,e6,q6,rfl,hle,hds⟩:=rowDc_dcs hrow;have HDT:=Ak hds;have HDS6:=Ak (HDS.out.same fun k _ hk=>hb.block k hk);have HR16:=Ak (HR15.out.below hb);have HR26:=Ak (HR25.out.below hb);have HB6:=Ak (below_then HB5.out HB5.out.size hb);have HEQ:=Ak (endu_eq HTK.out htk);clear hrow hb htk hle hds))
  clear HR1 HR14 HR15 HR2 HR25 HDS HB3 HB4 HB5
  obtain ⟨hd,he⟩:=HEQ.out
  have HDQ:=Ak (endu_ok HBY.out HTK.out)
  clear HEQ HTK
  subst hd
  subst he
  obtain ⟨m,hm⟩:∃ m,m=l5.length:=⟨_,rfl⟩
  have HM:=Ak hm
  have hm9:m≤9223372036854775807:=by rw [hm];exact Nat.le_trans HLE.out.1 HLE.out.2
  rw [← hm]
  clear hm
  have h3:=string_of_reads Try.underlying31 Try.underlying5 Try.underlying9 (c:=c1) HR16.out
  have h5:=string_of_reads Try.underlying31 Try.underlying5 Try.underlying9 (c:=c2) HR26.out
  go_wp2
  clear h3 h5
  go_loopw [62] (fun i wr=>∃ k:Nat,i=.int .i64 k∧k≤m∧Aside0 (Below w6.heap.size w6 wr)) (fun i _=>m - (intOf i).toNat)
  case atStart=>exact ⟨0,rfl,Nat.zero_le _,⟨Below.refl _ _⟩⟩
  case round =>
   obtain ⟨k,rfl,hk,HBR⟩:=hrel
   by_cases hlk:k<m
   ·obtain ⟨d,hd⟩:∃ d,l5[k]?=some d:=⟨_,List.getElem?_eq_getElem (by rw [← HM.out];exact hlk)⟩
    obtain ⟨⟨b1,o1,hA1,-,hc1⟩,ht1⟩:=(HDS6.out.same (w':=wr) fun k _ hk=>HBR.out.block k hk) k d hd
    obtain ⟨⟨b2,o2,hA2,-,hc2⟩,ht2⟩:=(HDT.out.same (w':=wr) fun k _ hk=>HBR.out.block k hk) k d hd
    have HDK:=Ak (HDQ.out d (List.mem_of_getElem? hd))
    have HX:=Ak (show wr.rangeAt b1 (o1+k * 21) (dcC (q5 k) d) from hc1)
    have HY:=Ak (show wr.rangeAt b2 (o2+k * 21) (dcC (q6 k) d) from hc2)
    have HT1:=Ak (DcS.all ht1)
    have HT2:=Ak (DcS.all ht2)
    rw [hA1,hA2]
    clear hc1 hc2 ht1 ht2 hd hA1 hA2
    go_upto_region 12 with (fail)
    refine dbu12_region wr b1 o1 b2 o2 0 m e5 e6 k d (q5 k) (q6 k) HX.out HY.out HT1.out HT2.out HDK.out hlk ?_
    intro w7 hch
    have HB7:=Ak (below_then HBR.out HBR.out.size (hch.below (fun _ h=>h.elim False.elim False.elim) (Nat.le_refl _)))
    clear hch
    go_wp2
    go_roundw
    case rel=>exact ⟨k+1,by go_num,by omega,HB7⟩
    case measure=>(simp [intOf];try omega)
   ·obtain rfl:k=m:=by omega
    have hlt':decide ((k:Int)<k)=false:=by simp
    have HBF:=Ak (below_then HB6.out HB6.out.size HBR.out)
    go_wp2_with (go_at_call 15;go_must (refine (awake_calls _).mono ?_;rintro e wz ⟨rfl,hbz⟩;have HBZ:=Ak (below_then HBF.out HBF.out.size hbz);clear hbz))
    go_ret
    exact ⟨rfl,HBZ.out⟩
end Go.Proofs.Ytcgkeolgflphiaa

namespace Go.Proofs.Ytcgkeolgflphiaa
open Go.RowKit Go.Proofs.YtcgkeolgflphiaaW.PrintWords Go.RegionInvYtcgkeolgflphiaa Go.ChangeShapes Go.WideShapes Go.Deep

instance:Inhabited Lv:=⟨.mk 0 0 []⟩
set_option maxRecDepth 100000 in
theorem lv_open {H:Type} {enc:TypeId × Value→H} {W:World} {base:Nat} {sp:Nat→Bool} {held:Bool} (F:Nat):∀ (fuel:Nat),fuel≤F→∀ (cs:List Value) (x:DataW H × List MemPlace),
  DataW.trod enc Try.prog W base sp held fuel 24 cs=some x→∃ (l:Lv) (A:Option Addr) (c:Nat),cs=[.int .i64 l.kind,.int .i64 l.num,.slice A l.kids.length c]∧LvS W (fun _=>True) A c l∧(Lit.int .i64 l.kind).wf=true∧(Lit.int .i64 l.num).wf=true:=by
 induction F with
 | zero =>
  intro fuel hF cs x h
  obtain ⟨xs,n,hn,_⟩:=DataW.trod_struct Try.underlying24 h
  omega
 | succ F ih =>
  intro fuel hF cs x h
  obtain ⟨xs,n,hn,hx,hl,hxl,hf⟩:=DataW.trod_struct Try.underlying24 h
  have hl3:cs.length=3:=by rw [hl];kernel_rfl
  match xs,hxl,cs,hl3 with
  | [y0,y1,y2],_,[v0,v1,v2],_ =>
   have g0:DataW.trod enc Try.prog W base sp held n 3 [v0]=some y0:=hf 0 _ rfl
   have g1:DataW.trod enc Try.prog W base sp held n 3 [v1]=some y1:=hf 1 _ rfl
   have g2:DataW.trod enc Try.prog W base sp held n 22 [v2]=some y2:=hf 2 _ rfl
   obtain ⟨k,e0,_,w0⟩:=DataW.trod_int Try.underlying3 g0
   obtain ⟨m,e1,_,w1⟩:=DataW.trod_int Try.underlying3 g1
   obtain rfl:v0=.int .i64 k:=by simpa using e0
   obtain rfl:v1=.int .i64 m:=by simpa using e1
   rcases DataW.trod_slice Try.underlying22 g2 with ⟨e2,_⟩ | ⟨a,len,cap,elems,rest,n',hn',e2,_,_,hle,hm,hlen,hel,_,_⟩
   ·obtain rfl:v2=.slice none 0 0:=by simpa using e2
    exact ⟨.mk k m [],none,0,rfl,.mk (fun _=>none) (fun _=>0) (by simp) (by omega) (fun i x hx=>by simp at hx) (fun i x hx=>by simp at hx),w0,w1⟩
   ·obtain rfl:v2=.slice (some a) len cap:=by simpa using e2
    have hc3:Try.prog.cellsOf 24=3:=by kernel_rfl
    rw [hc3] at hel
    have each:∀ i,i<len→∃ q:Lv × Option Addr × Nat,W.cells? base (a.add (i * 3)) 3=some [.int .i64 q.1.kind,.int .i64 q.1.num,.slice q.2.1 q.1.kids.length q.2.2]∧LvS W (fun _=>True) q.2.1 q.2.2 q.1:=by
     intro i hi
     have hq:=hel i hi
     rw [List.getElem?_eq_getElem (by omega)] at hq
     obtain ⟨cs',h1,h2⟩:=Option.bind_eq_some_iff.1 hq
     obtain ⟨l,A,c,rfl,h3,_⟩:=ih n' (by omega) cs' _ h2
     exact ⟨(l,A,c),h1,h3⟩
    obtain ⟨q,hq⟩:=choose_lt each
    have hcell:∀ i,i<len→∀ j,j<3→W.cell? ((a.add (i * 3)).add j)=([.int .i64 (q i).1.kind,.int .i64 (q i).1.num,.slice (q i).2.1 (q i).1.kids.length (q i).2.2]:List Value)[j]?:=fun i hi j hj=>(World.cells?_some (hq i hi).1).2.2 j hj
    have hget:∀ (i:Nat) (x:Lv),((List.range len).map fun i=>(q i).1)[i]?=some x→i<len∧x=(q i).1:=by
     intro i x hx
     have hi:i<len:=by
      rcases Nat.lt_or_ge i len with h | h
      ·exact h
      ·rw [List.getElem?_eq_none (by simpa using h)] at hx;cases hx
     rw [List.getElem?_map,List.getElem?_range hi] at hx
     exact ⟨hi,(Option.some.inj hx).symm⟩
    refine ⟨.mk k m ((List.range len).map fun i=>(q i).1),some a,cap,by simp [Lv.kind,Lv.num,Lv.kids],.mk (fun i=>(q i).2.1) (fun i=>(q i).2.2) (by simpa using hle) (by simp only [maxLen] at hm;omega) (fun i x hx=>?_) (fun i x hx=>?_),w0,w1⟩
    ·obtain ⟨hi,rfl⟩:=hget i x hx
     have hsp:a.spot=none:=by
      have h0:=hcell 0 (by omega) 0 (by omega)
      simp only [Nat.zero_mul,Addr.add,if_true] at h0
      cases hs:a.spot with
      | none=>rfl
      | some z=>simp [World.cell?,hs] at h0;split at h0 <;> simp at h0
     obtain ⟨b,o,z⟩:=a
     obtain rfl:z=none:=hsp
     have c0:=hcell i hi 0 (by omega)
     have c1:=hcell i hi 1 (by omega)
     have c2:=hcell i hi 2 (by omega)
     simp only [add_flat] at c0 c1 c2
     exact ⟨_,rfl,trivial,rfl,by rw [add_flat];exact c0,by rw [add_flat];exact c1,by rw [add_flat];exact c2⟩
    ·obtain ⟨hi,rfl⟩:=hget i x hx
     exact (hq i hi).2
end Go.Proofs.Ytcgkeolgflphiaa

namespace Go.Proofs.Ytcgkeolgflphiaa
open Go.RowKit Go.Proofs.YtcgkeolgflphiaaW.PrintWords Go.RegionInvYtcgkeolgflphiaa Go.ChangeShapes Go.WideShapes Go.Deep

set_option maxRecDepth 100000 in
theorem lvs_open {H:Type} {enc:TypeId × Value→H} {W:World} {base:Nat} {sp:Nat→Bool} {held:Bool} {fuel:Nat} {v2:Value} {y2:DataW H × List MemPlace} (g2:DataW.trod enc Try.prog W base sp held fuel 22 [v2]=some y2) :
  ∃ (vs:List Lv) (A:Option Addr) (c:Nat),v2=.slice A vs.length c∧LvS W (fun _=>True) A c (.mk 0 0 vs):=by
 rcases DataW.trod_slice Try.underlying22 g2 with ⟨e2,_⟩ | ⟨a,len,cap,elems,rest,n',hn',e2,_,_,hle,hm,hlen,hel,_,_⟩
 ·obtain rfl:v2=.slice none 0 0:=by simpa using e2
  exact ⟨[],none,0,rfl,.mk (fun _=>none) (fun _=>0) (by simp) (by omega) (fun i x hx=>by simp at hx) (fun i x hx=>by simp at hx)⟩
 ·obtain rfl:v2=.slice (some a) len cap:=by simpa using e2
  have hc3:Try.prog.cellsOf 24=3:=by kernel_rfl
  rw [hc3] at hel
  have each:∀ i,i<len→∃ q:Lv × Option Addr × Nat,W.cells? base (a.add (i * 3)) 3=some [.int .i64 q.1.kind,.int .i64 q.1.num,.slice q.2.1 q.1.kids.length q.2.2]∧LvS W (fun _=>True) q.2.1 q.2.2 q.1:=by
   intro i hi
   have hq:=hel i hi
   rw [List.getElem?_eq_getElem (by omega)] at hq
   obtain ⟨cs',h1,h2⟩:=Option.bind_eq_some_iff.1 hq
   obtain ⟨l,A,c,rfl,h3,_⟩:=lv_open n' n' (Nat.le_refl _) cs' _ h2
   exact ⟨(l,A,c),h1,h3⟩
  obtain ⟨q,hq⟩:=choose_lt each
  have hcell:∀ i,i<len→∀ j,j<3→W.cell? ((a.add (i * 3)).add j)=([.int .i64 (q i).1.kind,.int .i64 (q i).1.num,.slice (q i).2.1 (q i).1.kids.length (q i).2.2]:List Value)[j]?:=fun i hi j hj=>(World.cells?_some (hq i hi).1).2.2 j hj
  have hget:∀ (i:Nat) (x:Lv),((List.range len).map fun i=>(q i).1)[i]?=some x→i<len∧x=(q i).1:=by
   intro i x hx
   have hi:i<len:=by
    rcases Nat.lt_or_ge i len with h | h
    ·exact h
    ·rw [List.getElem?_eq_none (by simpa using h)] at hx;cases hx
   rw [List.getElem?_map,List.getElem?_range hi] at hx
   exact ⟨hi,(Option.some.inj hx).symm⟩
  refine ⟨(List.range len).map fun i=>(q i).1,some a,cap,by simp,.mk (fun i=>(q i).2.1) (fun i=>(q i).2.2) (by simpa using hle) (by simp only [maxLen] at hm;omega) (fun i x hx=>?_) (fun i x hx=>?_)⟩
  ·obtain ⟨hi,rfl⟩:=hget i x hx
   have hsp:a.spot=none:=by
    have h0:=hcell 0 (by omega) 0 (by omega)
    simp only [Nat.zero_mul,Addr.add,if_true] at h0
    cases hs:a.spot with
    | none=>rfl
    | some z=>simp [World.cell?,hs] at h0;split at h0 <;> simp at h0
   obtain ⟨b,o,z⟩:=a
   obtain rfl:z=none:=hsp
   have c0:=hcell i hi 0 (by omega)
   have c1:=hcell i hi 1 (by omega)
   have c2:=hcell i hi 2 (by omega)
   simp only [add_flat] at c0 c1 c2
   exact ⟨_,rfl,trivial,rfl,by rw [add_flat];exact c0,by rw [add_flat];exact c1,by rw [add_flat];exact c2⟩
  ·obtain ⟨hi,rfl⟩:=hget i x hx
   exact (hq i hi).2
end Go.Proofs.Ytcgkeolgflphiaa

namespace Go.Proofs.Ytcgkeolgflphiaa
open Go.RowKit Go.Proofs.YtcgkeolgflphiaaW.PrintWords Go.RegionInvYtcgkeolgflphiaa Go.ChangeShapes Go.WideShapes Go.Deep

section
variable {H:Type} {enc:TypeId × Value→H} {W:World} {base:Nat} {sp:Nat→Bool} {held:Bool}
def Sized (t:TypeId) (d:DataW H):Prop:=(DataW.weights Try.prog t d).all (·≤reachBytes)=true
theorem all_at {t:TypeId}:∀ {l:List (DataW H)},(DataW.weightsAll Try.prog t l).all (·≤reachBytes)=true→∀ (i:Nat) (d:DataW H),l[i]?=some d→Sized t d
 | [],_,i,d,h=>by simp at h
 | x :: r,hw,i,d,h=>by
  rw [DataW.weightsAll,List.all_append,Bool.and_eq_true] at hw
  cases i with
  | zero=>simp at h;subst h;exact hw.1
  | succ j=>exact all_at hw.2 j d (by simpa using h)
theorem each_at:∀ {ts:List TypeId} {l:List (DataW H)},(DataW.weightsEach Try.prog ts l).all (·≤reachBytes)=true→∀ (i:Nat) (t:TypeId) (d:DataW H),ts[i]?=some t→l[i]?=some d→Sized t d
 | [],l,_,i,t,d,h,_=>by simp at h
 | _ :: _,[],_,i,t,d,_,h=>by simp at h
 | s :: ts,x :: r,hw,i,t,d,ht,hd=>by
  rw [DataW.weightsEach,List.all_append,Bool.and_eq_true] at hw
  cases i with
  | zero=>simp at ht hd;subst ht;subst hd;exact hw.1
  | succ j=>exact each_at hw.2 j t d (by simpa using ht) (by simpa using hd)
theorem sized_agg {t:TypeId} {fs:Array Field} {ps:List (DataW H)} (hu:Try.prog.underlying t=some (.struct fs)) (h:Sized t (.agg ps)):∀ (i:Nat) (f:Field) (d:DataW H),fs[i]?=some f→ps[i]?=some d→Sized f.type d:=by
 unfold Sized at h
 rw [DataW.weights,hu] at h
 intro i f d hf hd
 exact each_at h i f.type d (by simp [hf]) hd
theorem sized_slices {t e:TypeId} {es rs:List (DataW H)} (hu:Try.prog.underlying t=some (.slice e)) (h:Sized t (.slice es rs)):(es.length+rs.length) * Try.prog.bytesOf e≤140737488351232∧∀ (i:Nat) (d:DataW H),es[i]?=some d→Sized e d:=by
 unfold Sized at h
 rw [DataW.weights,hu] at h
 simp only [List.all_cons,List.all_append,Bool.and_eq_true,decide_eq_true_eq] at h
 exact ⟨h.1,fun i d hd=>all_at h.2.1 i d hd⟩
theorem sized_str {t:TypeId} {s:List UInt8} (h:Sized (H:=H) t (.lit (.string s))):s.length≤140737488351232:=by
 unfold Sized at h
 rw [DataW.weights] at h
 have h':s.length≤reachBytes:=by simpa using h
 exact h'
theorem lvs_len {fuel:Nat} {v:Value} {y:DataW H × List MemPlace} (g:DataW.trod enc Try.prog W base sp held fuel 22 [v]=some y) (hw:Sized 22 y.1) {A:Option Addr} {n c:Nat} (he:v=.slice A n c):n * 40≤140737488355328:=by
 subst he
 rcases DataW.trod_slice Try.underlying22 g with ⟨e2,_⟩ | ⟨a,len,cap,elems,rest,n',hn',e2,hy,_,hle,hm,hlen,hel,_,_⟩
 ·have:n=0:=by simp at e2;exact e2.2.1
  omega
 ·have:n=len:=by simp at e2;exact e2.2.1
  subst this
  subst hy
  have h:=(sized_slices Try.underlying22 hw).1
  rw [show Try.prog.bytesOf 24=40 by kernel_rfl] at h
  simp only [List.length_map] at h
  have:=Nat.le_mul_of_pos_right elems.length (show 0<40 by decide)
  have h2:n * 40≤(elems.length+rest.length) * 40:=Nat.mul_le_mul_right _ (by omega)
  omega
theorem plain_addr {a:Addr} {v:Value} (h:W.cell? a=some v):a.spot=none:=by
 cases hs:a.spot with
 | none=>rfl
 | some z=>simp [World.cell?,hs] at h;split at h <;> simp at h
theorem int_range {n:Int} (h:(Lit.int .i64 n).wf=true):-9223372036854775808≤n∧n≤9223372036854775807:=by simpa [Lit.wf,IntKind.min,IntKind.max,IntKind.signed,IntKind.bits] using h
set_option maxRecDepth 100000 in
set_option maxHeartbeats 4000000 in
theorem tm_open (F:Nat):∀ (fuel:Nat),fuel≤F→∀ (cs:List Value) (x:DataW H × List MemPlace),DataW.trod enc Try.prog W base sp held fuel 27 cs=some x→Sized 27 x.1 →
  ∃ (t:Tm) (p:Pl),cs=tmC p t∧TmS W (fun _=>True) p t:=by
 induction F with
 | zero =>
  intro fuel hF cs x h
  obtain ⟨xs,n,hn,_⟩:=DataW.trod_struct Try.underlying27 h
  omega
 | succ F ih =>
  intro fuel hF cs x h hw
  obtain ⟨xs,n,hn,hx,hl,hxl,hf⟩:=DataW.trod_struct Try.underlying27 h
  have hl8:cs.length=8:=by rw [hl];kernel_rfl
  match xs,hxl,cs,hl8 with
  | [y0,y1,y2,y3,y4,y5],_,[v0,v1,v2,v3,v4,v5,v6,v7],_ =>
   subst hx
   have g0:DataW.trod enc Try.prog W base sp held n 3 [v0]=some y0:=hf 0 _ rfl
   have g1:DataW.trod enc Try.prog W base sp held n 3 [v1]=some y1:=hf 1 _ rfl
   have g2:DataW.trod enc Try.prog W base sp held n 9 [v2]=some y2:=hf 2 _ rfl
   have g3:DataW.trod enc Try.prog W base sp held n 24 [v3,v4,v5]=some y3:=hf 3 _ rfl
   have g4:DataW.trod enc Try.prog W base sp held n 22 [v6]=some y4:=hf 4 _ rfl
   have g5:DataW.trod enc Try.prog W base sp held n 25 [v7]=some y5:=hf 5 _ rfl
   have z2:Sized 9 y2.1:=sized_agg Try.underlying27 hw 2 _ _ rfl rfl
   have z4:Sized 22 y4.1:=sized_agg Try.underlying27 hw 4 _ _ rfl rfl
   have z5:Sized 25 y5.1:=sized_agg Try.underlying27 hw 5 _ _ rfl rfl
   obtain ⟨k,e0,_,w0⟩:=DataW.trod_int Try.underlying3 g0
   obtain ⟨m,e1,_,w1⟩:=DataW.trod_int Try.underlying3 g1
   obtain ⟨s,e2,e2',_⟩:=DataW.trod_string Try.underlying9 g2
   obtain rfl:v0=.int .i64 k:=by simpa using e0
   obtain rfl:v1=.int .i64 m:=by simpa using e1
   obtain rfl:v2=.string s:=by simpa using e2
   have hs:s.size≤140737488355328:=by
    rw [e2'] at z2
    have:=sized_str z2
    simp at this
    have e:s.size=s.data.size:=rfl
    omega
   obtain ⟨l,A,c,e3,hlv,_,_⟩:=lv_open n n (Nat.le_refl _) _ _ g3
   obtain ⟨ls,B,d,rfl,hls⟩:=lvs_open g4
   have hll:=lvs_len g4 z4 rfl
   obtain ⟨rfl,rfl,rfl⟩:v3=.int .i64 l.kind∧v4=.int .i64 l.num∧v5=.slice A l.kids.length c:=by simpa using e3
   have hfit:Fit m s ls:=⟨int_range w1,hs,hll⟩
   rcases DataW.trod_slice Try.underlying25 g5 with ⟨e5,_⟩ | ⟨a,len,cap,elems,rest,n',hn',e5,hy,_,hle,hm,hlen,hel,_,_⟩
   ·obtain rfl:v7=.slice none 0 0:=by simpa using e5
    exact ⟨.mk k m s l ls [],⟨A,c,B,d,none,0⟩,rfl,.mk (fun _=>default) hlv hls (by simp) (by simp) hfit (fun i x hx=>by simp at hx) (fun i x hx=>by simp at hx)⟩
   ·obtain rfl:v7=.slice (some a) len cap:=by simpa using e5
    subst hy
    have hz:=(sized_slices Try.underlying25 z5).2
    have hc8:Try.prog.cellsOf 27=8:=by kernel_rfl
    rw [hc8] at hel
    have each:∀ i,i<len→∃ q:Tm × Pl,W.cells? base (a.add (i * 8)) 8=some (tmC q.2 q.1)∧TmS W (fun _=>True) q.2 q.1:=by
     intro i hi
     have hq:=hel i hi
     rw [List.getElem?_eq_getElem (by omega)] at hq
     obtain ⟨cs',h1,h2⟩:=Option.bind_eq_some_iff.1 hq
     obtain ⟨t,p,rfl,h3⟩:=ih n' (by omega) cs' _ h2 (hz i _ (by rw [List.getElem?_map,List.getElem?_eq_getElem (by omega)];rfl))
     exact ⟨(t,p),h1,h3⟩
    obtain ⟨q,hq⟩:=choose_lt each
    have hcell:∀ i,i<len→∀ j,j<8→W.cell? ((a.add (i * 8)).add j)=(tmC (q i).2 (q i).1)[j]?:=fun i hi j hj=>(World.cells?_some (hq i hi).1).2.2 j hj
    have hget:∀ (i:Nat) (x:Tm),((List.range len).map fun i=>(q i).1)[i]?=some x→i<len∧x=(q i).1:=by
     intro i x hx
     have hi:i<len:=by
      rcases Nat.lt_or_ge i len with h | h
      ·exact h
      ·rw [List.getElem?_eq_none (by simpa using h)] at hx;cases hx
     rw [List.getElem?_map,List.getElem?_range hi] at hx
     exact ⟨hi,(Option.some.inj hx).symm⟩
    refine ⟨.mk k m s l ls ((List.range len).map fun i=>(q i).1),⟨A,c,B,d,some a,cap⟩,by simp [tmC,Tm.kind,Tm.num,Tm.name,Tm.lv,Tm.ls,Tm.kids],.mk (fun i=>(q i).2) hlv hls (by simpa using hle) (by simp only [maxLen] at hm;exact hm) hfit (fun i x hx=>?_) (fun i x hx=>?_)⟩
    ·obtain ⟨hi,rfl⟩:=hget i x hx
     have h0:=hcell 0 (by omega) 0 (by omega)
     simp only [Nat.zero_mul,Addr.add,if_true] at h0
     have hsp:a.spot=none:=plain_addr (h0.trans (by rfl))
     obtain ⟨b,o,z⟩:=a
     obtain rfl:z=none:=hsp
     refine ⟨b,o,rfl,trivial,fun j v hv=>?_⟩
     have hj:j<8:=by
      rcases Nat.lt_or_ge j 8 with h | h
      ·exact h
      ·rw [List.getElem?_eq_none (by rw [tmC_len];exact h)] at hv;cases hv
     have c0:=hcell i hi j hj
     simp only [add_flat] at c0
     rw [c0]
     exact hv
    ·obtain ⟨hi,rfl⟩:=hget i x hx
     exact (hq i hi).2
set_option maxRecDepth 100000 in
set_option maxHeartbeats 4000000 in
theorem ct_open (fuel:Nat) (cs:List Value) (x:DataW H × List MemPlace) (h:DataW.trod enc Try.prog W base sp held fuel 63 cs=some x) (hw:Sized 63 x.1) :
  ∃ (c:Ct) (q:Pl),cs=ctC q c∧TmS W (fun _=>True) q c.ty∧c.nm.size≤140737488355328:=by
 obtain ⟨xs,n,hn,hx,hl,hxl,hf⟩:=DataW.trod_struct Try.underlying63 h
 have hl9:cs.length=9:=by rw [hl];kernel_rfl
 match xs,hxl,cs,hl9 with
 | [y0,y1],_,[v0,v1,v2,v3,v4,v5,v6,v7,v8],_ =>
  subst hx
  have g0:DataW.trod enc Try.prog W base sp held n 9 [v0]=some y0:=hf 0 _ rfl
  have g1:DataW.trod enc Try.prog W base sp held n 27 [v1,v2,v3,v4,v5,v6,v7,v8]=some y1:=hf 1 _ rfl
  have z0:Sized 9 y0.1:=sized_agg Try.underlying63 hw 0 _ _ rfl rfl
  have z1:Sized 27 y1.1:=sized_agg Try.underlying63 hw 1 _ _ rfl rfl
  obtain ⟨s,e2,e2',_⟩:=DataW.trod_string Try.underlying9 g0
  obtain rfl:v0=.string s:=by simpa using e2
  have hs:s.size≤140737488355328:=by
   rw [e2'] at z0
   have:=sized_str z0
   simp at this
   have e:s.size=s.data.size:=rfl
   omega
  obtain ⟨t,p,he,ht⟩:=tm_open n n (Nat.le_refl _) _ _ g1 z1
  refine ⟨⟨s,t⟩,p,?_,ht,hs⟩
  unfold tmC at he
  unfold ctC
  rw [he]
instance:Inhabited Ct:=⟨⟨ByteArray.empty,default⟩⟩
set_option maxRecDepth 100000 in
set_option maxHeartbeats 4000000 in
theorem cts_open {fuel:Nat} {v:Value} {y:DataW H × List MemPlace} (g:DataW.trod enc Try.prog W base sp held fuel 28 [v]=some y) (hw:Sized 28 y.1) :
  ∃ (ks:List Ct) (C:Option Addr) (e:Nat) (q:Nat→Pl),v=.slice C ks.length e∧(ks.length≤e∧e≤9223372036854775807)∧∀ (i:Nat) (c:Ct),ks[i]?=some c→CtAt W (fun _=>True) C i (q i) c∧TmS W (fun _=>True) (q i) c.ty∧c.nm.size≤140737488355328:=by
 rcases DataW.trod_slice Try.underlying28 g with ⟨e5,_⟩ | ⟨a,len,cap,elems,rest,n',hn',e5,hy,_,hle,hm,hlen,hel,_,_⟩
 ·obtain rfl:v=.slice none 0 0:=by simpa using e5
  exact ⟨[],none,0,fun _=>default,rfl,by simp,fun i x hx=>by simp at hx⟩
 ·obtain rfl:v=.slice (some a) len cap:=by simpa using e5
  subst hy
  have hz:=(sized_slices Try.underlying28 hw).2
  have hc9:Try.prog.cellsOf 63=9:=by kernel_rfl
  rw [hc9] at hel
  have each:∀ i,i<len→∃ q:Ct × Pl,W.cells? base (a.add (i * 9)) 9=some (ctC q.2 q.1)∧TmS W (fun _=>True) q.2 q.1.ty∧q.1.nm.size≤140737488355328:=by
   intro i hi
   have hq:=hel i hi
   rw [List.getElem?_eq_getElem (by omega)] at hq
   obtain ⟨cs',h1,h2⟩:=Option.bind_eq_some_iff.1 hq
   obtain ⟨t,p,rfl,h3⟩:=ct_open n' cs' _ h2 (hz i _ (by rw [List.getElem?_map,List.getElem?_eq_getElem (by omega)];rfl))
   exact ⟨(t,p),h1,h3⟩
  obtain ⟨q,hq⟩:=choose_lt each
  have hcell:∀ i,i<len→∀ j,j<9→W.cell? ((a.add (i * 9)).add j)=(ctC (q i).2 (q i).1)[j]?:=fun i hi j hj=>(World.cells?_some (hq i hi).1).2.2 j hj
  refine ⟨(List.range len).map fun i=>(q i).1,some a,cap,fun i=>(q i).2,by simp,⟨by simpa using hle,by simp only [maxLen] at hm;exact hm⟩,fun i x hx=>?_⟩
  have hi:i<len:=by
   rcases Nat.lt_or_ge i len with h | h
   ·exact h
   ·rw [List.getElem?_eq_none (by simpa using h)] at hx;cases hx
  rw [List.getElem?_map,List.getElem?_range hi] at hx
  obtain rfl:(q i).1=x:=Option.some.inj hx
  refine ⟨?_,(hq i hi).2⟩
  have h0:=hcell 0 (by omega) 0 (by omega)
  simp only [Nat.zero_mul,Addr.add,if_true] at h0
  have hsp:a.spot=none:=plain_addr (h0.trans (by rfl))
  obtain ⟨b,o,z⟩:=a
  obtain rfl:z=none:=hsp
  refine ⟨b,o,rfl,trivial,fun j v hv=>?_⟩
  have hj:j<9:=by
   rcases Nat.lt_or_ge j 9 with h | h
   ·exact h
   ·rw [List.getElem?_eq_none (by exact h)] at hv;cases hv
  have c0:=hcell i hi j hj
  simp only [add_flat] at c0
  rw [c0]
  exact hv
set_option maxRecDepth 100000 in
set_option maxHeartbeats 8000000 in
theorem dc_open (fuel:Nat) (cs:List Value) (x:DataW H × List MemPlace) (h:DataW.trod enc Try.prog W base sp held fuel 30 cs=some x) (hw:Sized 30 x.1) :
  ∃ (d:Dc) (P:DPl),cs=dcC P d∧DcS W (fun _=>True) P d∧(Lit.int .i64 d.vars).wf=true:=by
 obtain ⟨xs,n,hn,hx,hl,hxl,hf⟩:=DataW.trod_struct Try.underlying30 h
 have hl21:cs.length=21:=by rw [hl];kernel_rfl
 match xs,hxl,cs,hl21 with
 | [y0,y1,y2,y3,y4,y5,y6],_,[v0,v1,v2,v3,v4,v5,v6,v7,v8,v9,v10,v11,v12,v13,v14,v15,v16,v17,v18,v19,v20],_ =>
  subst hx
  have g0:DataW.trod enc Try.prog W base sp held n 3 [v0]=some y0:=hf 0 _ rfl
  have g1:DataW.trod enc Try.prog W base sp held n 9 [v1]=some y1:=hf 1 _ rfl
  have g2:DataW.trod enc Try.prog W base sp held n 3 [v2]=some y2:=hf 2 _ rfl
  have g3:DataW.trod enc Try.prog W base sp held n 27 [v3,v4,v5,v6,v7,v8,v9,v10]=some y3:=hf 3 _ rfl
  have g4:DataW.trod enc Try.prog W base sp held n 27 [v11,v12,v13,v14,v15,v16,v17,v18]=some y4:=hf 4 _ rfl
  have g5:DataW.trod enc Try.prog W base sp held n 3 [v19]=some y5:=hf 5 _ rfl
  have g6:DataW.trod enc Try.prog W base sp held n 28 [v20]=some y6:=hf 6 _ rfl
  have z1:Sized 9 y1.1:=sized_agg Try.underlying30 hw 1 _ _ rfl rfl
  have z3:Sized 27 y3.1:=sized_agg Try.underlying30 hw 3 _ _ rfl rfl
  have z4:Sized 27 y4.1:=sized_agg Try.underlying30 hw 4 _ _ rfl rfl
  have z6:Sized 28 y6.1:=sized_agg Try.underlying30 hw 6 _ _ rfl rfl
  obtain ⟨k,e0,_,w0⟩:=DataW.trod_int Try.underlying3 g0
  obtain ⟨s,e2,e2',_⟩:=DataW.trod_string Try.underlying9 g1
  obtain ⟨vs,e1,_,w1⟩:=DataW.trod_int Try.underlying3 g2
  obtain ⟨ps,e5,_,w5⟩:=DataW.trod_int Try.underlying3 g5
  obtain rfl:v0=.int .i64 k:=by simpa using e0
  obtain rfl:v1=.string s:=by simpa using e2
  obtain rfl:v2=.int .i64 vs:=by simpa using e1
  obtain rfl:v19=.int .i64 ps:=by simpa using e5
  have hs:s.size≤140737488355328:=by
   rw [e2'] at z1
   have:=sized_str z1
   simp at this
   have e:s.size=s.data.size:=rfl
   omega
  obtain ⟨t,p,he,ht⟩:=tm_open n n (Nat.le_refl _) _ _ g3 z3
  obtain ⟨t2,p2,he2,ht2⟩:=tm_open n n (Nat.le_refl _) _ _ g4 z4
  obtain ⟨ks,C,e,q,rfl,hlen,hct⟩:=cts_open g6 z6
  refine ⟨⟨k,s,vs,t,t2,ps,ks⟩,⟨p,p2,C,e,q⟩,?_,⟨ht,ht2,hlen,hs,hct⟩,w1⟩
  unfold dcC
  rw [← he,← he2]
  rfl
end
end Go.Proofs.Ytcgkeolgflphiaa

namespace Go.Proofs.Ytcgkeolgflphiaa
open Go.RowKit Go.Proofs.YtcgkeolgflphiaaW.PrintWords Go.RegionInvYtcgkeolgflphiaa Go.ChangeShapes Go.WideShapes Go.Deep

section
variable {H:Type} {enc:TypeId × Value→H} {W:World} {base:Nat} {sp:Nat→Bool} {held:Bool}
set_option maxRecDepth 100000 in
theorem dcs_open {fuel:Nat} {v7:Value} {y5:DataW H × List MemPlace} (g5:DataW.trod enc Try.prog W base sp held fuel 42 [v7]=some y5) (z5:Sized 42 y5.1) :
  ∃ (xs:List Dc) (A:Option Addr) (c:Nat) (q:Nat→DPl),v7=.slice A xs.length c∧xs.length≤9223372036854775807∧DcsS W (fun _=>True) A q xs:=by
 rcases DataW.trod_slice Try.underlying42 g5 with ⟨e5,_⟩ | ⟨a,len,cap,elems,rest,n',hn',e5,hy,_,hle,hm,hlen,hel,_,_⟩
 ·obtain rfl:v7=.slice none 0 0:=by simpa using e5
  exact ⟨[],none,0,fun _=>⟨default,default,none,0,fun _=>default⟩,rfl,by simp,fun i x hx=>by simp at hx⟩
 ·obtain rfl:v7=.slice (some a) len cap:=by simpa using e5
  subst hy
  have hz:=(sized_slices Try.underlying42 z5).2
  have hc8:Try.prog.cellsOf 30=21:=by kernel_rfl
  rw [hc8] at hel
  have each:∀ i,i<len→∃ q:Dc × DPl,W.cells? base (a.add (i * 21)) 21=some (dcC q.2 q.1)∧DcS W (fun _=>True) q.2 q.1:=by
   intro i hi
   have hq:=hel i hi
   rw [List.getElem?_eq_getElem (by omega)] at hq
   obtain ⟨cs',h1,h2⟩:=Option.bind_eq_some_iff.1 hq
   obtain ⟨t,p,rfl,h3,h4⟩:=dc_open n' cs' _ h2 (hz i _ (by rw [List.getElem?_map,List.getElem?_eq_getElem (by omega)];rfl))
   exact ⟨(t,p),h1,h3⟩
  haveI:Inhabited (Dc × DPl):=⟨(⟨0,⟨#[]⟩,0,default,default,0,[]⟩,⟨default,default,none,0,fun _=>default⟩)⟩
  obtain ⟨q,hq⟩:=choose_lt each
  have hcell:∀ i,i<len→∀ j,j<21→W.cell? ((a.add (i * 21)).add j)=(dcC (q i).2 (q i).1)[j]?:=fun i hi j hj=>(World.cells?_some (hq i hi).1).2.2 j hj
  have hget:∀ (i:Nat) (x:Dc),((List.range len).map fun i=>(q i).1)[i]?=some x→i<len∧x=(q i).1:=by
   intro i x hx
   have hi:i<len:=by
    rcases Nat.lt_or_ge i len with h | h
    ·exact h
    ·rw [List.getElem?_eq_none (by simpa using h)] at hx;cases hx
   rw [List.getElem?_map,List.getElem?_range hi] at hx
   exact ⟨hi,(Option.some.inj hx).symm⟩
  refine ⟨(List.range len).map fun i=>(q i).1,some a,cap,fun i=>(q i).2,by simp,by simp;simp only [maxLen] at hm;omega,fun i x hx=>⟨?_,?_⟩⟩
  ·obtain ⟨hi,rfl⟩:=hget i x hx
   have h0:=hcell 0 (by omega) 0 (by omega)
   simp only [Nat.zero_mul,Addr.add,if_true] at h0
   have hsp:a.spot=none:=plain_addr (h0.trans (by rfl))
   obtain ⟨b,o,z⟩:=a
   obtain rfl:z=none:=hsp
   refine ⟨b,o,rfl,trivial,fun j v hv=>?_⟩
   have hj:j<21:=by
    rcases Nat.lt_or_ge j 21 with h | h
    ·exact h
    ·rw [List.getElem?_eq_none (by exact h)] at hv;cases hv
   have c0:=hcell i hi j hj
   simp only [add_flat] at c0
   rw [c0]
   exact hv
  ·obtain ⟨hi,rfl⟩:=hget i x hx
   exact (hq i hi).2
set_option maxRecDepth 100000 in
theorem dcs_in {v:Value} {d:DataW H} {ps:List MemPlace} {r:Reach} {b0:Nat} (hv:Value.okWide Try.prog W r b0 42 v) (h:DataW.Trod enc Try.prog W base sp held 42 v d ps) (hw:Sized 42 d) :
  ∃ (xs:List Dc) (A:Option Addr) (c n:Nat) (q:Nat→DPl),v=.slice A n c∧n=xs.length∧n≤9223372036854775807∧DcsS W (fun _=>True) A q xs:=by
 obtain ⟨a,len,cap,rfl⟩:=okWide_slice Try.underlying42 hv
 obtain ⟨fuel,hf⟩:=h
 obtain ⟨xs,A,c,q,he,hx9,hx⟩:=dcs_open (v7:=.slice a len cap) hf hw
 exact ⟨xs,A,c,_,q,he,rfl,hx9,hx⟩
end
end Go.Proofs.Ytcgkeolgflphiaa

namespace Go.Proofs.YtcgkeolgflphiaaW.PrintWords
open Go.ChangeShapes Go.WideShapes
theorem sized_ints {H:Type} {enc:TypeId × Value→H} {P:Program} {W:World} {base:Nat} {spare:Nat→Bool} {held:Bool} {t e:TypeId} {k:IntKind} {a:Option Addr} {len cap:Nat} {d:DataW H} {ps:List MemPlace} {ts:List TypeId} {ds:List (DataW H)} {j:Nat}
  (hsz:(DataW.weightsEach P ts ds).all (·≤reachBytes)=true) (ht:ts[j]?=some t) (hd:ds[j]?=some d) (hu:P.underlying t=some (.slice e)) (he:P.underlying e=some (.int k)) (hc:P.cellsOf e=1) {B:Nat} (hB:P.bytesOf e=B)
  (h:DataW.Trod enc P W base spare held t (.slice a len cap) d ps):len * B≤140737488351232:=by
 obtain ⟨fuel,hf⟩:=h
 rcases open_ints hu he hc hf with ⟨hcs,_⟩ | ⟨x,l,c,zs,hcs,_,hl,_,hz,hx,_,_⟩
 ·simp [Value.cells] at hcs
  obtain ⟨rfl,rfl,rfl⟩:=hcs
  simp
 ·simp [Value.cells] at hcs
  obtain ⟨rfl,rfl,rfl⟩:=hcs
  obtain ⟨hx,_⟩:=Prod.mk.inj hx
  subst hx
  have z:=sized_slice hsz ht hd hu
  rw [hB] at z
  have hl2:len≤zs.length:=by
   rw [hz]
   split
   ·exact hl
   ·exact Nat.le_refl _
  have h1:(lits (H:=H) k (zs.take len)).length+(lits (H:=H) k (zs.drop len)).length=zs.length:=by
   simp [lits]
   omega
  rw [h1] at z
  exact Nat.le_trans (Nat.mul_le_mul_right _ hl2) z
end Go.Proofs.YtcgkeolgflphiaaW.PrintWords
