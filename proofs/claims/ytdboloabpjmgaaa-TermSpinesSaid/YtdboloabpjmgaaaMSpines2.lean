/-
  Merged: LvRS, Eq, OpsL, Lq, Sz, Ord, OpsP, Val, Lvl, LvlW, OpsC, Sim, Red, MeansP, InstP, Inst, InR, InW, InU, InV, ValR, PutsP, Tm, TmK, FoMe, Meas, Leaf, LeafR, OwnLv, KidS, Node, RegI, RebO, RebR, Cnt.
-/
import Derived.RangeFuncNested
import Derived.RangeFuncBound
import Derived.RangeFuncCalls
import Derived.RangeFuncLeaves
import Derived.Shelf.Abstract
import Derived.WalkKit
import Derived.OwnWalkIn
import Derived.TacticsInMore
import Derived.LoopNIn
import Derived.LoopIn
import Derived.OrdersIn
import Derived.TacticsIn
import Derived.Deep.MidRow
import Derived.Deep.AppendLies
import Derived.Test.YtdboloabpjmgaaaMSpines1
namespace Go.Proofs.Ytdboloabpjmgaaa
open Go.RowKit Go.Proofs.YtdboloabpjmgaaaW.PrintWords Go.RegionInvYtdboloabpjmgaaa

theorem one_ne {s:Int}:((1:Int),s).1≠0:=by show (1:Int)≠0;decide
theorem ref_bit {b:Bool} {s:Int}:(((if b=true then (0:Int) else 1),s).1 == 0)=b:=by cases b <;> rfl
theorem ref_leaf {k n:Int} {ks:List Lv} {d s:Int} (hk:k=1∨k=2) (hm:(ks.length:Int)=arityP k) (hd:d≤256) (hs:s+1≤1000):walkP sndF (.mk k n ks) d s=((if rightP (.mk k n ks) 1099511627776 1000=true then (0:Int) else 1),s+1):=by
 rw [arity_12 hk] at hm
 obtain rfl:ks=[]:=List.eq_nil_of_length_eq_zero (by omega)
 cases hR:rightP (.mk k n []) 1099511627776 1000 with
 | false =>
  have h:=sndF_bad (l:=.mk k n []) (d:=d) (s:=s) (.inr (.inr hR))
  rw [walkP_stop (by rw [h];exact one_ne),h];rfl
 | true =>
  have h:=sndF_ok (l:=.mk k n []) (d:=d) (s:=s) (by rw [hR];simp;omega)
  rw [walkP_go (by rw [h]),h];rfl
def RefPost (w:World) (g:Nat) (r:Int × Int) (e:Ending) (w':World):Prop:=e=.returned (.bool (r.1 == 0))∧NumAt w' g r.2∧Chg (fun k=>k=g) w w'
set_option maxHeartbeats 4000000 in
theorem ref_sound (N:Nat):∀ (l:Lv),SizeOf.sizeOf l<N→∀ (A:Option Addr) (c:Nat) (d s:Int) (g B:Nat) (w:World),LvIn w B A c l→NumAt w g s→B≤g→0≤s→s≤1000→0≤d→d≤257 →
  Calls Try.prog 103 #[lvV A c l,.int .i64 d,.pointer (some ⟨g,0,none⟩)] w (RefPost w g (walkP sndF l d s)):=by
 induction N with
 | zero=>intro l h;omega
 | succ N ih =>
  rintro ⟨lk,ln,ks⟩ hN A c d s g B w hin hg hBg hs0 hs1 hd0 hd1
  have IH:=Ak ih
  have HIN:=Ak hin
  have HG:=Ak hg
  have hcell:=hg.cell
  have hfz:=blk_frozen hg 0
  have hlen:=hin.len
  simp only [Lv.kids] at hlen
  have hl9:ks.length≤9223372036854775807:=by omega
  have hglt:=blk_lt hg
  have hgne:g≠w.heap.size:=Nat.ne_of_lt hglt
  clear ih hin hg hlen
  unfold lvV
  simp only [Lv.kind,Lv.num,Lv.kids]
  obtain ⟨m,hm⟩:∃ m,m=ks.length:=⟨_,rfl⟩
  rw [← hm] at hl9 ⊢
  have HM:=Ak hm
  clear hm
  have hfin:NumAt ((w.setCell ⟨g,0,none⟩ (.int .i64 (s+1))).alloc (.cells #[.int .i64 lk,.int .i64 ln,.slice A m c] 25 (0,0))) g (s+1):=(HG.out.set _).alloc _
  have hch:Chg (fun k=>k=g) w ((w.setCell ⟨g,0,none⟩ (.int .i64 (s+1))).alloc (.cells #[.int .i64 lk,.int .i64 ln,.slice A m c] 25 (0,0))):=chg_trans (chg_set _ _ _ _) (chg_alloc _ _ _)
  have HF:=Ak (And.intro hfin hch)
  have hc2:=hfin.cell
  clear hfin hch
  go_enter Try.func103,Try.ntmps103
  by_cases h1:256<d
  ·have hw:=Ak (show walkP sndF (.mk lk ln ks) d s=(1,s+1) by rw [walkP_stop (by rw [sndF_bad (.inr (.inl h1))];exact one_ne),sndF_bad (.inr (.inl h1))])
   go_upto_region 2 with (fail)
   go_quiet ((go_at_call 115;exact Calls.quiet_of_same (arity_calls _ _)))
   go_wp2
   go_ret
   rw [hw.out]
   exact ⟨rfl,HF.out.1,chg_drewN HF.out.2 _⟩
  ·by_cases h2:1000<s+1
   ·have hw:=Ak (show walkP sndF (.mk lk ln ks) d s=(1,s+1) by rw [walkP_stop (by rw [sndF_bad (.inl h2)];exact one_ne),sndF_bad (.inl h2)])
    go_upto_region 2 with (fail)
    go_quiet ((go_at_call 115;exact Calls.quiet_of_same (arity_calls _ _)))
    go_wp2
    go_ret
    rw [hw.out]
    exact ⟨rfl,HF.out.1,chg_drewN HF.out.2 _⟩
   ·by_cases h3:(m:Int)=arityP lk
    ·have h3':((m:Int) != arityP lk)=false:=by simp [h3]
     have h3n:0≤arityP lk:=by omega
     have HAR:=Ak h3
     clear h3
     go_upto_region 2 with (fail)
     go_quiet ((go_at_call 115;exact Calls.quiet_of_same (arity_calls _ _)))
     go_upto_block 0 with (fail)
     go_cut [] (fun w2=>Aside0 (rightP (.mk lk ln ks) 1099511627776 1000=true)∧Aside0 (NumAt w2 g (s+1))∧Aside0 (Chg (fun k=>k=g) w w2)∧w2.cell? ⟨w.heap.size,2,none⟩=some (.slice A m c))
     case first =>
      have hbx:((w.setCell ⟨g,0,none⟩ (.int .i64 (s+1))).alloc (.cells #[.int .i64 lk,.int .i64 ln,.slice A m c] 25 (0,0))).cell? ⟨w.heap.size,2,none⟩=some (.slice A m c):=by
       have:=box_cell (w.setCell ⟨g,0,none⟩ (.int .i64 (s+1))) #[.int .i64 lk,.int .i64 ln,.slice A m c] 25 2 (.slice A m c) rfl
       rwa [show (w.setCell ⟨g,0,none⟩ (.int .i64 (s+1))).heap.size=w.heap.size by simp [World.setCell]] at this
      have HBX:=Ak hbx
      clear hbx
      by_cases k1:lk=1
      ·have e1:(lk == 1)=true:=by simp [k1]
       have HL:=Ak (ref_leaf (n:=ln) (ks:=ks) (d:=d) (s:=s) (.inl k1) (by rw [← HM.out];exact HAR.out) (by omega) (by omega))
       have HRR:=Ak (show rightP (.mk lk ln ks) 1099511627776 1000=decide (0≤ln∧ln≤1099511627776) by rw [k1];exact right_num (by rw [← HM.out,HAR.out,k1]))
       clear k1
       by_cases q1:0≤ln
       ·go_wp2
        go_ret
        exact ⟨congrArg (fun b=>Ending.returned (.bool b)) (by rw [HL.out,ref_bit,HRR.out];first | exact (decide_eq_true (by omega)).symm | exact decide_eq_decide.2 (by omega)),by rw [HL.out];exact HF.out.1,chg_drewN HF.out.2 _⟩
       ·go_wp2
        go_ret
        exact ⟨congrArg (fun b=>Ending.returned (.bool b)) (by rw [HL.out,ref_bit,HRR.out];exact (decide_eq_false (by omega)).symm),by rw [HL.out];exact HF.out.1,chg_drewN HF.out.2 _⟩
      ·have e1:(lk == 1)=false:=by simp [k1]
       by_cases k2:lk=2
       ·have e2:(lk == 2)=true:=by simp [k2]
        have HL:=Ak (ref_leaf (n:=ln) (ks:=ks) (d:=d) (s:=s) (.inr k2) (by rw [← HM.out];exact HAR.out) (by omega) (by omega))
        have HRR:=Ak (show rightP (.mk lk ln ks) 1099511627776 1000=decide (0≤ln∧ln≤1000) by rw [k2];exact right_var (by rw [← HM.out,HAR.out,k2]))
        clear k1 k2
        by_cases q1:0≤ln
        ·go_wp2
         go_ret
         exact ⟨congrArg (fun b=>Ending.returned (.bool b)) (by rw [HL.out,ref_bit,HRR.out];first | exact (decide_eq_true (by omega)).symm | exact decide_eq_decide.2 (by omega)),by rw [HL.out];exact HF.out.1,chg_drewN HF.out.2 _⟩
        ·go_wp2
         go_ret
         exact ⟨congrArg (fun b=>Ending.returned (.bool b)) (by rw [HL.out,ref_bit,HRR.out];exact (decide_eq_false (by omega)).symm),by rw [HL.out];exact HF.out.1,chg_drewN HF.out.2 _⟩
       ·have e2:(lk == 2)=false:=by simp [k2]
        by_cases k3:lk=3
        ·have e3:(lk == 3)=true:=by simp [k3]
         have hrr:rightP (.mk lk ln ks) 1099511627776 1000=decide (1≤ln∧ln≤1099511627776):=by rw [k3];exact right_succ (by rw [← HM.out,HAR.out,k3])
         clear k1 k2 k3
         by_cases q:1≤ln∧ln≤1099511627776
         ·have HRT:=Ak (hrr.trans (decide_eq_true q))
          have q1:=q.1
          have q2:=q.2
          clear hrr q
          go_wp2
          go_meet
          case rel=>exact ⟨HRT,⟨HF.out.1⟩,⟨chg_drewN HF.out.2 _⟩,HBX.out⟩
         ·have hbad:=hrr.trans (decide_eq_false q)
          have hw:=Ak (show walkP sndF (.mk lk ln ks) d s=(1,s+1) by rw [walkP_stop (by rw [sndF_bad (.inr (.inr hbad))];exact one_ne),sndF_bad (.inr (.inr hbad))])
          clear hrr hbad
          by_cases q1:ln<1
          ·go_wp2
           go_ret
           rw [hw.out]
           exact ⟨rfl,HF.out.1,chg_drewN HF.out.2 _⟩
          ·have q2:1099511627776<ln:=by omega
           go_wp2
           go_ret
           rw [hw.out]
           exact ⟨rfl,HF.out.1,chg_drewN HF.out.2 _⟩
        ·have e3:(lk == 3)=false:=by simp [k3]
         have HRT:=Ak (right_else (n:=ln) (ks:=ks) (most:=1099511627776) (mostV:=1000) (by rw [← HM.out];exact HAR.out) k1 k2 k3)
         clear k1 k2 k3
         go_wp2
         go_meet
         case rel=>exact ⟨HRT,⟨HF.out.1⟩,⟨chg_drewN HF.out.2 _⟩,HBX.out⟩
     case rest =>
      obtain ⟨HRT,HG0,HC0,hbox2⟩:=hcut
      have hok:=sndF_ok (l:=.mk lk ln ks) (d:=d) (s:=s) (by rw [HRT.out];simp;omega)
      have hz:(sndF (.mk lk ln ks) d s).1=0:=by rw [hok]
      have HE:=Ak (walkP_go hz)
      rw [hok] at HE
      simp only [Lv.kids] at HE
      have hs3:s+1≤1000:=by omega
      clear hok hz
      go_wp2
      go_loopw [72] (fun i wr=>∃ (k:Nat) (s':Int),i=.int .i64 k∧k≤m∧0≤s'∧s'≤1000∧Aside0 (walkKs sndF (ks.drop k) (d+1) s'=walkP sndF (.mk lk ln ks) d s)∧Aside0 (NumAt wr g s')∧Aside0 (Chg (fun k=>k=g) w wr)) (fun i _=>m - (intOf i).toNat)
      case atStart=>exact ⟨0,s+1,rfl,Nat.zero_le _,by omega,by omega,⟨HE.out.symm⟩,HG0,HC0⟩
      case round =>
       clear HE HG0 HC0 hbox2
       obtain ⟨k,s',rfl,hk,hs4,hs5,HE,HG1,HC1⟩:=hrel
       have HIN2:=Ak (LvIn.stay HIN.out (chg_below HC1.out hBg (Nat.le_of_lt (Nat.lt_of_le_of_lt hBg hglt))))
       by_cases hlt:k<m
       ·have hlt2:k<ks.length:=by rw [← HM.out];exact hlt
        obtain ⟨x,hx⟩:∃ x,ks[k]?=some x:=⟨_,List.getElem?_eq_getElem hlt2⟩
        obtain ⟨A',c',hcs,hin⟩:=HIN2.out.kid k x hx
        obtain ⟨ad,rfl,hc1,hc2,hc3⟩:=hcs.facts
        clear hcs
        have HX:=Ak hx
        have HXIN:=Ak hin
        clear hx hin hlt2
        have hglt2:=blk_lt HG1.out
        by_cases h2:(walkP sndF x (d+1) s').1=0
        ·have hsm:=walkP_small sndF_small x (d+1) s' hs4 h2
         have HK:=Ak ((walkKs_go (r:=ks.drop (k+1)) h2).symm.trans ((congrArg (fun l=>walkKs sndF l (d+1) s') (drop_kid HX.out)).symm.trans HE.out))
         obtain ⟨e2,s2,hes⟩:∃ a b,walkP sndF x (d+1) s'=(a,b):=⟨_,_,rfl⟩
         have HV:=Ak hes
         rw [hes] at hsm h2 HK
         simp only at hsm h2 HK
         subst h2
         have hs6:=hsm.1
         have hs7:=hsm.2
         clear hes hsm
         go_wp2_with (go_at_call 103;go_must (refine (IH.out x (Nat.lt_of_lt_of_le (kid_small HX.out) (Nat.le_of_lt_succ hN)) A' c' (d+1) s' g B _ (LvIn.stay HXIN.out ((Below.refl _ _).alloc (Nat.le_of_lt (Nat.lt_of_le_of_lt hBg hglt2)) _)) (HG1.out.alloc _) hBg hs4 hs5 (by omega) (by omega)).mono ?_;rintro e w2 ⟨rfl,hg1,hc1⟩;rw [HV.out] at hg1 ⊢;have HG2:=Ak hg1;have HC2:=Ak (chg_trans HC1.out (chg_trans (chg_alloc _ _ _) hc1));clear hg1 hc1))
         go_roundw
         case rel=>exact ⟨k+1,s2,by go_num,by omega,hs6,hs7,HK,HG2,HC2⟩
         case measure=>(simp [intOf];try omega)
        ·have HK:=Ak ((walkKs_stop (r:=ks.drop (k+1)) h2).symm.trans ((congrArg (fun l=>walkKs sndF l (d+1) s') (drop_kid HX.out)).symm.trans HE.out))
         obtain ⟨e2,s2,hes⟩:∃ a b,walkP sndF x (d+1) s'=(a,b):=⟨_,_,rfl⟩
         have HV:=Ak hes
         rw [hes] at h2
         have h2':(e2 == 0)=false:=by simpa using h2
         clear hes h2
         go_wp2_with (go_at_call 103;go_must (refine (IH.out x (Nat.lt_of_lt_of_le (kid_small HX.out) (Nat.le_of_lt_succ hN)) A' c' (d+1) s' g B _ (LvIn.stay HXIN.out ((Below.refl _ _).alloc (Nat.le_of_lt (Nat.lt_of_le_of_lt hBg hglt2)) _)) (HG1.out.alloc _) hBg hs4 hs5 (by omega) (by omega)).mono ?_;rintro e w2 ⟨rfl,hg1,hc1⟩;rw [HV.out] at hg1 ⊢;have HG2:=Ak hg1;have HC2:=Ak (chg_trans HC1.out (chg_trans (chg_alloc _ _ _) hc1));clear hg1 hc1))
         go_ret
         rw [← HK.out,HV.out]
         exact ⟨by simp [h2'],HG2.out,HC2.out⟩
       ·obtain rfl:k=m:=by omega
        have hlt':decide ((k:Int)<k)=false:=by simp
        have HW:=Ak (show walkP sndF (.mk lk ln ks) d s=(0,s') by rw [← HE.out,List.drop_of_length_le (by rw [← HM.out];exact Nat.le_refl _),walkKs])
        go_wp2
        go_ret
        rw [HW.out]
        exact ⟨rfl,HG1.out,HC1.out⟩
    ·have hbad:rightP (.mk lk ln ks) 1099511627776 1000=false:=right_bad (by rw [← HM.out];exact h3)
     have hw:=Ak (show walkP sndF (.mk lk ln ks) d s=(1,s+1) by rw [walkP_stop (by rw [sndF_bad (.inr (.inr hbad))];exact one_ne),sndF_bad (.inr (.inr hbad))])
     have h3':((m:Int) != arityP lk)=true:=by simp [h3]
     clear hbad h3
     go_upto_region 2 with (fail)
     by_cases h4:arityP lk<0
     ·go_quiet ((go_at_call 115;exact Calls.quiet_of_same (arity_calls _ _)))
      go_wp2
      go_ret
      rw [hw.out]
      exact ⟨rfl,HF.out.1,chg_drewN HF.out.2 _⟩
     ·go_quiet ((go_at_call 115;exact Calls.quiet_of_same (arity_calls _ _)))
      go_wp2
      go_ret
      rw [hw.out]
      exact ⟨rfl,HF.out.1,chg_drewN HF.out.2 _⟩
end Go.Proofs.Ytdboloabpjmgaaa

namespace Go.Proofs.Ytdboloabpjmgaaa
open Go.RowKit Go.Proofs.YtdboloabpjmgaaaW.PrintWords Go.RegionInvYtdboloabpjmgaaa Go.RegionEYtdboloabpjmgaaa

set_option maxHeartbeats 2000000 in
theorem refSound_calls (A:Option Addr) (c:Nat) (l:Lv) (w:World) (hin:LvIn w w.heap.size A c l) :
  Calls Try.prog 72 #[lvV A c l] w fun e w'=>e=.returned (.bool (soundB l))∧Below w.heap.size w w':=by
 have HIN:=Ak hin
 clear hin
 unfold lvV
 go_enter Try.func72,Try.ntmps72
 have hnew:NumAt ((w.alloc (.cells #[.int .i64 l.kind,.int .i64 l.num,.slice A l.kids.length c] 25 (0,0))).alloc (.cells #[.int .i64 0] 3 (0,0))) (w.heap.size+1) 0:=by
  have:=blk_new (w.alloc (.cells #[.int .i64 l.kind,.int .i64 l.num,.slice A l.kids.length c] 25 (0,0))) (.cells #[.int .i64 0] 3 (0,0))
  simpa [NumAt] using this
 have HNEW:=Ak hnew
 clear hnew
 go_wp2_with (go_at_call 103;go_must (refine (ref_sound _ l (Nat.lt_succ_self _) A c 1 0 (w.heap.size+1) w.heap.size _ (LvIn.stay HIN.out (below_alloc (below_alloc (Below.refl _ _) _) _)) HNEW.out (Nat.le_succ _) (by decide) (by decide) (by decide) (by decide)).mono ?_;rintro e w1 ⟨rfl,-,hc⟩;have HB:=Ak (two_below hc);clear hc))
 go_ret
 exact ⟨rfl,HB.out⟩
theorem take_next {xs ys:List Int} {j:Nat} (hl:xs.length=ys.length) (hj:j<xs.length) (he:xs.take j=ys.take j) (hr:rd xs j=rd ys j):xs.take (j+1)=ys.take (j+1):=by
 rw [List.take_add_one,List.take_add_one,he]
 congr 1
 simp only [rd_nat',List.getD_eq_getElem?_getD,List.getElem?_eq_getElem hj,List.getElem?_eq_getElem (show j<ys.length by omega),Option.getD_some] at hr
 simp only [List.getElem?_eq_getElem hj,List.getElem?_eq_getElem (show j<ys.length by omega),hr]
theorem take_not {xs ys:List Int} {j:Nat} (hr:rd xs j≠rd ys j):xs≠ys:=fun e=>hr (by rw [e])
set_option maxHeartbeats 4000000 in
theorem sEqual_calls (A B:Option Addr) (n m cap cap':Nat) (xs ys:List Int) (w:World) (hx:ReadsInt w .i64 A n xs) (hy:ReadsInt w .i64 B m ys) :
  Calls Try.prog 121 #[.slice A n cap,.slice B m cap'] w fun e w'=>e=.returned (.bool (decide (xs=ys)))∧Below w.heap.size w w':=by
 have HX:=Ak hx
 have HY:=Ak hy
 have hn9:=hx.2.1
 have hm9:=hy.2.1
 have HN:=Ak hx.1
 have HM:=Ak hy.1
 clear hx hy
 go_enter Try.func121,Try.ntmps121
 by_cases hnm:n=m
 ·subst hnm
  have hb:((n:Int) != (n:Int))=false:=by simp
  go_wp2
  go_loopw [13] (fun i wr=>∃ (j:Nat),i=.int .i64 j∧j≤n∧Aside0 (xs.take j=ys.take j)∧Aside0 (Below w.heap.size w wr)) (fun i _=>n - (intOf i).toNat)
  case atStart=>exact ⟨0,rfl,Nat.zero_le _,⟨rfl⟩,⟨Below.refl _ _⟩⟩
  case round =>
   obtain ⟨j,rfl,hj,HE,HB⟩:=hrel
   by_cases hlt:j<n
   ·obtain ⟨ad,rfl,hcx⟩:=(HX.out.below HB.out).at_ j (by omega) (by omega)
    obtain ⟨ad',rfl,hcy⟩:=(HY.out.below HB.out).at_ j (by omega) (by omega)
    rw [Int.toNat_natCast] at hcx hcy
    obtain ⟨x,hxv⟩:∃ x,x=rd xs j:=⟨_,rfl⟩
    obtain ⟨y,hyv⟩:∃ y,y=rd ys j:=⟨_,rfl⟩
    rw [← hxv] at hcx
    rw [← hyv] at hcy
    have HXV:=Ak hxv
    have HYV:=Ak hyv
    clear hxv hyv
    by_cases hxy:x=y
    ·have hbb:(x != y)=false:=by simp [hxy]
     have HE':=Ak (take_next (by rw [HN.out,HM.out]) (by rw [HN.out];exact hlt) HE.out (by rw [← HXV.out,← HYV.out,hxy]))
     clear hxy
     go_upto_region 6 with (fail)
     go_region_law (fail)
     all_goals go_wp2
     all_goals exact ⟨⟨j+1,by go_num,by omega,HE',⟨below_drew HB.out⟩⟩,by simp [intOf];omega⟩
    ·have hbb:(x != y)=true:=by simp [hxy]
     have HF:=Ak (show decide (xs=ys)=false from decide_eq_false (take_not (j:=j) (by rw [← HXV.out,← HYV.out];exact hxy)))
     clear hxy
     go_upto_region 6 with (fail)
     go_region_law (fail)
     all_goals go_wp2
     all_goals go_ret
     all_goals exact ⟨by rw [HF.out];rfl,by repeat' first | exact HB.out | apply below_drew⟩
   ·obtain rfl:j=n:=by omega
    have hlt':decide ((j:Int)<j)=false:=by simp
    have HF:=Ak (show decide (xs=ys)=true from decide_eq_true (by have:=HE.out;rwa [List.take_of_length_le (by rw [HN.out];exact Nat.le_refl _),List.take_of_length_le (by rw [HM.out];exact Nat.le_refl _)] at this))
    go_wp2
    go_ret
    exact ⟨by rw [HF.out];rfl,HB.out⟩
 ·have hb:((n:Int) != (m:Int))=true:=by simp;omega
  have HF:=Ak (show decide (xs=ys)=false from decide_eq_false fun e=>hnm (by rw [← HN.out,← HM.out,e]))
  go_wp2
  go_ret
  exact ⟨by rw [HF.out];rfl,Below.refl _ _⟩
def eqP (a b:Lv):Bool:=soundB a && soundB b && decide (shortN (sumP a)=shortN (sumP b))
theorem eqP_1 {a b:Lv} (h:soundB a=false):eqP a b=false:=by unfold eqP;rw [h];rfl
theorem eqP_2 {a b:Lv} (h:soundB b=false):eqP a b=false:=by unfold eqP;rw [h];cases soundB a <;> rfl
theorem eqP_3 {a b:Lv} (ha:soundB a=true) (hb:soundB b=true):eqP a b=decide (shortN (sumP a)=shortN (sumP b)):=by unfold eqP;rw [ha,hb];rfl
theorem pair_dec {f h:Nf}:decide (f=h)=(f.1 == h.1 && decide (f.2=h.2)):=by
 cases f;cases h
 simp [Prod.mk.injEq,Bool.decide_and]
 rfl
abbrev bx2 (w:World) (A B:Option Addr) (c c':Nat) (a b:Lv):World:=(w.alloc (.cells #[.int .i64 a.kind,.int .i64 a.num,.slice A a.kids.length c] 25 (0,0))).alloc (.cells #[.int .i64 b.kind,.int .i64 b.num,.slice B b.kids.length c'] 25 (0,0))
set_option maxHeartbeats 4000000 in
theorem equal_calls (A B:Option Addr) (c c':Nat) (a b:Lv) (w:World) (ha:LvIn w w.heap.size A c a) (hb:LvIn w w.heap.size B c' b) :
  Calls Try.prog 106 #[lvV A c a,lvV B c' b] w fun e w'=>e=.returned (.bool (eqP a b))∧Below w.heap.size w w':=by
 have HA:=Ak ha
 have HB:=Ak hb
 have hla:a.kids.length≤9223372036854775807:=by have:=ha.len;omega
 have hlb:b.kids.length≤9223372036854775807:=by have:=hb.len;omega
 have HW:=Ak (show Below w.heap.size w (bx2 w A B c c' a b) from below_alloc (below_alloc (Below.refl _ _) _) _)
 have HX:=Ak (show (bx2 w A B c c' a b).heap[w.heap.size]?=some (.cells #[.int .i64 a.kind,.int .i64 a.num,.slice A a.kids.length c] 25 (0,0)) from box0 w _ _)
 have HY:=Ak (show (bx2 w A B c c' a b).heap[w.heap.size+1]?=some (.cells #[.int .i64 b.kind,.int .i64 b.num,.slice B b.kids.length c'] 25 (0,0)) from box1 w _ _)
 clear ha hb
 cases hsa:soundB a with
 | false =>
  have HE:=Ak (eqP_1 (b:=b) hsa)
  have HS:=Ak hsa
  clear hsa
  unfold lvV
  go_enter Try.func106,Try.ntmps106
  go_wp2_with (first
   | (go_at_call 109;go_must (refine (sound_calls A c a _ (LvS.all (HA.out.stay HW.out))).mono ?_;rintro e w1 ⟨rfl,hb⟩;rw [HS.out];have HB1:=Ak (below_then HW.out HW.out.size hb);clear hb)))
  go_ret
  exact ⟨by rw [HE.out];rfl,HB1.out⟩
 | true =>
  have HSA:=Ak hsa
  cases hsb:soundB b with
  | false =>
   have HE:=Ak (eqP_2 (a:=a) hsb)
   have HSB:=Ak hsb
   clear hsa hsb
   unfold lvV
   go_enter Try.func106,Try.ntmps106
   go_wp2_with (first
    | (have hg:=HB1;clear hg;go_at_call 109;go_must (refine (sound_calls B c' b w1 (LvS.all (HB.out.stay HB1.out))).mono ?_;rintro e w2 ⟨rfl,hb⟩;rw [HSB.out];have HB2:=Ak (below_then HB1.out HB1.out.size hb);clear hb))
    | (go_at_call 109;go_must (refine (sound_calls A c a (bx2 w A B c c' a b) (LvS.all (HA.out.stay HW.out))).mono ?_;rintro e w1 ⟨rfl,hb⟩;rw [HSA.out];have HB1:=Ak (below_then HW.out HW.out.size hb);obtain ⟨p0,p1,p2,-,-,-⟩:=row3 (blk_below HY.out hb);clear hb)))
   go_ret
   exact ⟨by rw [HE.out];rfl,HB2.out⟩
  | true =>
   have HE:=Ak ((eqP_3 hsa hsb).trans pair_dec)
   have HSB:=Ak hsb
   clear hsa hsb
   unfold lvV
   go_enter Try.func106,Try.ntmps106
   go_upto_region 3 with (first
    | (have hg:=HB1;clear hg;go_at_call 109;go_must (refine (sound_calls B c' b w1 (LvS.all (HB.out.stay HB1.out))).mono ?_;rintro e w2 ⟨rfl,hb⟩;rw [HSB.out];have HB2:=Ak (below_then HB1.out HB1.out.size hb);have HX2:=Ak (blk_below HX1.out hb);have HY2:=Ak (blk_below HY1.out hb);clear hb))
    | (go_at_call 109;go_must (refine (sound_calls A c a (bx2 w A B c c' a b) (LvS.all (HA.out.stay HW.out))).mono ?_;rintro e w1 ⟨rfl,hb⟩;rw [HSA.out];have HB1:=Ak (below_then HW.out HW.out.size hb);have HX1:=Ak (blk_below HX.out hb);have HY1:=Ak (blk_below HY.out hb);obtain ⟨p0,p1,p2,-,-,-⟩:=row3 (blk_below HY.out hb);clear hb)))
   refine eq_region w2 w.heap.size A B c c' a b HX2.out HY2.out (HA.out.stay HB2.out) (HB.out.stay HB2.out) HSA.out HSB.out ?_
   rintro w' u5 u6 u16 u17 u19 u20 v8 O8 v9 O9 hch ⟨p,rfl,hf⟩ - ⟨q,rfl,hg⟩ -
   have hb':Below w2.heap.size w2 w':=hch.below (fun _ h=>h.elim False.elim False.elim) (Nat.le_refl _)
   have HB':=Ak (below_then HB2.out HB2.out.size hb')
   obtain ⟨A1,n1,c1,hx1,-,hc1,hi1⟩:=hf
   obtain ⟨A2,n2,c2,hx2,-,hc2,hi2⟩:=hg
   obtain ⟨d0,d1,-,-⟩:=row2 hx1
   obtain ⟨e0,e1,-,-⟩:=row2 hx2
   obtain ⟨f,hf⟩:∃ f,f=shortN (sumP a):=⟨_,rfl⟩
   obtain ⟨h,hh⟩:∃ h,h=shortN (sumP b):=⟨_,rfl⟩
   rw [← hf] at d0 hi1 HE
   rw [← hh] at e0 hi2 HE
   have HI1:=Ak hi1.1
   have HI2:=Ak hi2.1
   clear hch hx1 hx2 hc1 hc2 hi1 hi2 hf hh hb'
   by_cases hff:f.1=h.1
   ·have hb1:(f.1 == h.1)=true:=by simp [hff]
    have HE:=Ak (HE.out.trans (by rw [hb1,Bool.true_and]))
    clear hff
    go_wp2_with (go_at_call 121;go_must (refine (sEqual_calls A1 A2 n1 n2 c1 c2 f.2 h.2 w' HI1.out HI2.out).mono ?_;rintro e w3 ⟨rfl,hb⟩;rw [← HE.out];have HB3:=Ak (below_then HB'.out HB'.out.size hb);clear hb))
    go_ret
    exact ⟨rfl,HB3.out⟩
   ·have hb1:(f.1 == h.1)=false:=by simp [hff]
    have HE:=Ak (HE.out.trans (by rw [hb1,Bool.false_and]))
    clear hff
    go_wp2
    go_ret
    exact ⟨by rw [HE.out];rfl,HB'.out⟩
end Go.Proofs.Ytdboloabpjmgaaa

namespace Go.Proofs.Ytdboloabpjmgaaa
open Go.RowKit Go.Proofs.YtdboloabpjmgaaaW.PrintWords Go.RegionInvYtdboloabpjmgaaa Go.RegionEYtdboloabpjmgaaa

def LvV (T:Nat→Prop) (l:Lv) (v:Value) (w:World) (O:Nat→Prop):Prop:=∃ A c,v=lvV A c l∧LvS w (fun k=>T k∨O k) A c l
theorem LvV.all {T:Nat→Prop} {l:Lv} {v:Value} {w:World} {O:Nat→Prop} (h:LvV T l v w O):∃ A c,v=lvV A c l∧LvIn w w.heap.size A c l:=by
 obtain ⟨A,c,e,h⟩:=h
 exact ⟨A,c,e,h.all⟩
section
variable {ops:Array Oper} {Q:Exit→Act→World→Prop} {R:Nat→Prop} {a:Act} {w:World} {o:Oper} {T:Nat→Prop}

end
end Go.Proofs.Ytdboloabpjmgaaa

namespace Go.Proofs.Ytdboloabpjmgaaa
open Go.RowKit Go.Proofs.YtdboloabpjmgaaaW.PrintWords Go.RegionInvYtdboloabpjmgaaa Go.RegionEYtdboloabpjmgaaa

def leastN (n:Nf):Int:=n.2.foldl max n.1
end Go.Proofs.Ytdboloabpjmgaaa

namespace Go.Proofs.Ytdboloabpjmgaaa
open Go.RowKit Go.Proofs.YtdboloabpjmgaaaW.PrintWords

mutual
def sz:Lv→Nat
 | .mk _ _ ks=>szs ks+1
def szs:List Lv→Nat
 | []=>0
 | x :: r=>sz x+szs r
end
mutual
def dp:Lv→Nat
 | .mk _ _ ks=>dps ks+1
def dps:List Lv→Nat
 | []=>0
 | x :: r=>max (dp x) (dps r)
end
theorem sz_mk (k n:Int) (ks:List Lv):sz (.mk k n ks)=szs ks+1:=by rw [sz]
theorem dp_mk (k n:Int) (ks:List Lv):dp (.mk k n ks)=dps ks+1:=by rw [dp]
theorem szs_cons (x:Lv) (r:List Lv):szs (x :: r)=sz x+szs r:=by rw [szs]
theorem dps_cons (x:Lv) (r:List Lv):dps (x :: r)=max (dp x) (dps r):=by rw [dps]
theorem szs_nil:szs []=0:=by rw [szs]
theorem dps_nil:dps []=0:=by rw [dps]
mutual
theorem walk_ok:(l:Lv)→(d s:Nat)→Good l→s+sz l≤1000→d+dp l≤257→walkP sndF l d s=(0,((s+sz l:Nat):Int))
 | .mk k n ks,d,s,hg,hs,hd=>by
  cases hg with
  | mk h hk =>
   rw [sz_mk] at hs ⊢
   rw [dp_mk] at hd
   have hf:sndF (.mk k n ks) d s=(0,(s:Int)+1):=sndF_ok (by rw [h];simp;omega)
   rw [walkP_go (by rw [hf]),hf]
   have:=walks_ok ks (d+1) (s+1) hk (by omega) (by omega) (by omega)
   simp only [Lv.kids]
   rw [show ((d:Int)+1)=((d+1:Nat):Int) by omega,show ((s:Int)+1)=((s+1:Nat):Int) by omega,this]
   congr 2;omega
theorem walks_ok:(ks:List Lv)→(d s:Nat)→(∀ x∈ks,Good x)→s+szs ks≤1000→d+dps ks≤257→d≤257→walkKs sndF ks d s=(0,((s+szs ks:Nat):Int))
 | [],d,s,_,_,_,_=>by rw [walkKs,szs_nil];rfl
 | x :: r,d,s,hg,hs,hd,_=>by
  rw [szs_cons] at hs ⊢
  rw [dps_cons] at hd
  have h1:=walk_ok x d s (hg x (by simp)) (by omega) (by omega)
  rw [walkKs_go (by rw [h1]),h1]
  have:=walks_ok r d (s+sz x) (fun y hy=>hg y (by simp [hy])) (by omega) (by omega) (by omega)
  rw [this]
  congr 2;omega
end
mutual
theorem walk_back:(l:Lv)→(d s:Nat)→(walkP sndF l d s).1=0→(walkP sndF l d s).2=((s+sz l:Nat):Int)∧s+sz l≤1000∧d+dp l≤257
 | .mk k n ks,d,s,h=>by
  by_cases h1:(sndF (.mk k n ks) d s).1=0
  ·have h2:=sndF_small' (by omega) h1
   rw [walkP_go h1] at h ⊢
   rw [h2.2.2.2] at h ⊢
   simp only [Lv.kids] at h ⊢
   rw [show ((d:Int)+1)=((d+1:Nat):Int) by omega,show ((s:Int)+1)=((s+1:Nat):Int) by omega] at h ⊢
   have:=walks_back ks (d+1) (s+1) (by omega) (by omega) h
   rw [sz_mk,dp_mk]
   refine ⟨?_,by omega,by omega⟩
   rw [this.1];congr 1;omega
  ·rw [walkP_stop h1] at h;exact absurd h h1
theorem walks_back:(ks:List Lv)→(d s:Nat)→s≤1000→d≤257→(walkKs sndF ks d s).1=0→(walkKs sndF ks d s).2=((s+szs ks:Nat):Int)∧s+szs ks≤1000∧d+dps ks≤257
 | [],d,s,h0,h1,_=>by rw [walkKs,szs_nil,dps_nil];exact ⟨rfl,by omega,by omega⟩
 | x :: r,d,s,h0,h1,h=>by
  by_cases h2:(walkP sndF x d s).1=0
  ·have h3:=walk_back x d s h2
   rw [walkKs_go h2] at h ⊢
   rw [h3.1] at h ⊢
   have h4:=walks_back r d (s+sz x) h3.2.1 h1 h
   rw [szs_cons,dps_cons]
   refine ⟨?_,by omega,by omega⟩
   rw [h4.1];congr 1;omega
  ·rw [walkKs_stop h2] at h;exact absurd h h2
end
theorem sound_iff (l:Lv):soundB l=true↔Good l∧sz l≤1000∧dp l≤256:=by
 constructor
 ·intro h
  have h1:(walkP sndF l (1:Nat) (0:Nat)).1=0:=by simpa [soundB] using h
  have:=walk_back l 1 0 h1
  exact ⟨good_of_sound h,by omega,by omega⟩
 ·rintro ⟨hg,hs,hd⟩
  have:=walk_ok l 1 0 hg (by omega) (by omega)
  unfold soundB
  have e:walkP sndF l 1 0=_:=this
  rw [e];rfl

mutual
theorem sz_cp:(l:Lv)→sz (cpP l)=sz l
 | .mk k n ks=>by rw [cpP,sz_mk,sz_mk,szs_cp ks]
theorem szs_cp:(ks:List Lv)→szs (cpKs ks)=szs ks
 | []=>by rw [cpKs]
 | x :: r=>by rw [cpKs,szs_cons,szs_cons,sz_cp x,szs_cp r]
end
mutual
theorem dp_cp:(l:Lv)→dp (cpP l)=dp l
 | .mk k n ks=>by rw [cpP,dp_mk,dp_mk,dps_cp ks]
theorem dps_cp:(ks:List Lv)→dps (cpKs ks)=dps ks
 | []=>by rw [cpKs]
 | x :: r=>by rw [cpKs,dps_cons,dps_cons,dp_cp x,dps_cp r]
end
theorem good_num {n:Int} (h0:0≤n) (h1:n≤1099511627776):Good (.mk 1 n []):=.mk (by rw [right_num (by simp [arityP])];simp;omega) (fun x hx=>by cases hx)
theorem good_var {n:Int} (h0:0≤n) (h1:n≤1000):Good (.mk 2 n []):=.mk (by unfold rightP;rw [if_neg (by simp [Lv.kids,Lv.kind,arityP]),if_neg (by simp [Lv.kind]),if_neg (by simp [Lv.kind]),if_pos (by rfl)];exact decide_eq_true ⟨h0,h1⟩) (fun x hx=>by cases hx)
theorem good_succ {n:Int} {x:Lv} (h0:1≤n) (h1:n≤1099511627776) (h:Good x):Good (.mk 3 n [x]):=.mk (by rw [right_succ (by simp [arityP])];simp;omega) (fun y hy=>(show x=y by simpa using (List.mem_singleton.1 hy).symm) ▸ h)
theorem good_max {n:Int} {x y:Lv} (hx:Good x) (hy:Good y):Good (.mk 4 n [x,y]):=.mk (by unfold rightP;simp [Lv.kids,Lv.kind,Lv.num,arityP]) (fun z hz=>by
 rcases List.mem_cons.1 hz with rfl | hz
 ·exact hx
 ·obtain rfl:z=y:=by simpa using hz
  exact hy)
theorem cp_both:∀ {l:Lv},Good l→Good (cpP l)∧∀ fs,ofP fs (cpP l)=ofP fs l:=by
 intro l h
 induction h with
 | @mk k n ks h hk ih =>
  rcases good_cases (.mk h hk) with ⟨rfl,rfl,h0,h1⟩ | ⟨rfl,rfl,h0,h1⟩ | ⟨rfl,x,rfl,h0,h1,-⟩ | ⟨rfl,x,y,rfl,-,-⟩
  ·rw [cpP,cpKs,if_neg (by decide)];exact ⟨good_num h0 h1,fun fs=>rfl⟩
  ·rw [cpP,cpKs,if_neg (by decide)];exact ⟨good_var h0 h1,fun fs=>rfl⟩
  ·rw [cpP,cpKs,cpKs,if_neg (by decide)]
   have:=ih x (by simp)
   exact ⟨good_succ h0 h1 this.1,fun fs=>by rw [ofP_succ,ofP_succ,this.2]⟩
  ·rw [cpP,cpKs,cpKs,cpKs,if_pos rfl]
   have hx:=ih x (by simp)
   have hy:=ih y (by simp)
   exact ⟨good_max hx.1 hy.1,fun fs=>by rw [ofP_max,ofP_max,hx.2,hy.2]⟩
theorem own_eq {l:Lv} (h:soundB l=true):owP l=cpP l:=owP_sound h
theorem own_good {l:Lv} (h:soundB l=true):Good (owP l):=by rw [own_eq h];exact (cp_both (good_of_sound h)).1
theorem own_sum {l:Lv} (h:soundB l=true):sumP (owP l)=sumP l:=by rw [own_eq h];exact (cp_both (good_of_sound h)).2 []
theorem own_sz {l:Lv} (h:soundB l=true):sz (owP l)=sz l:=by rw [own_eq h];exact sz_cp l
theorem own_dp {l:Lv} (h:soundB l=true):dp (owP l)=dp l:=by rw [own_eq h];exact dp_cp l
theorem own_sound {l:Lv} (h:soundB l=true):soundB (owP l)=true:=by
 rw [sound_iff,own_sz h,own_dp h]
 exact ⟨own_good h,((sound_iff l).1 h).2⟩

theorem atP_or (f h:Nf) (j:Nat):atP (orN f h).2 j=max (atP f.2 j) (atP h.2 j):=by
 have hl:(orN f h).2.length=max f.2.length h.2.length:=by simp [orN]
 by_cases hj:j<max f.2.length h.2.length
 ·rw [atP_in (by rw [hl];omega),rd_nat',List.getD_eq_getElem?_getD]
  simp [orN,hj]
 ·rw [atP_out (by rw [hl];omega),atP_out (by omega),atP_out (by omega)];rfl
theorem nf_ext {f h:Nf} (h1:f.1=h.1) (hl:f.2.length=h.2.length) (ha:∀ j:Nat,atP f.2 j=atP h.2 j):f=h:=by
 refine Prod.ext h1 (List.ext_getElem hl fun j hj hj'=>?_)
 have:=ha j
 rw [atP_in (by omega),atP_in (by omega),rd_nat',rd_nat',List.getD_eq_getElem?_getD,List.getD_eq_getElem?_getD,List.getElem?_eq_getElem hj,List.getElem?_eq_getElem hj'] at this
 exact this
theorem or_len (f h:Nf):(orN f h).2.length=max f.2.length h.2.length:=by simp [orN]
theorem or_fst (f h:Nf):(orN f h).1=max f.1 h.1:=rfl
end Go.Proofs.Ytdboloabpjmgaaa

namespace Go.Proofs.Ytdboloabpjmgaaa
open Go.RowKit Go.Proofs.YtdboloabpjmgaaaW.PrintWords

theorem atP_ge {f:Nf} (hf:NfOk f) (j:Nat):-1≤atP f.2 j:=(atP_ok hf.2.2.1 j).1
theorem atP_beyond {ks:List Int} {j:Nat} (h:ks.length≤j):atP ks j = -1:=atP_out (by omega)
theorem atP_lt {ks:List Int} {j:Nat} (h:j<ks.length):atP ks j=rd ks j:=atP_in (by omega)
theorem atP_get {ks:List Int} {j:Nat} (h:j<ks.length):atP ks j=ks[j]:=by
 rw [atP_lt h,rd_nat',List.getD_eq_getElem?_getD,List.getElem?_eq_getElem h];rfl
theorem fold_ge (ks:List Int) (c:Int):c≤ks.foldl max c∧∀ x∈ks,x≤ks.foldl max c:=by
 induction ks generalizing c with
 | nil=>exact ⟨Int.le_refl _,fun x hx=>by cases hx⟩
 | cons y r ih =>
  have:=ih (max c y)
  simp only [List.foldl_cons]
  refine ⟨by omega,fun x hx=>?_⟩
  rcases List.mem_cons.1 hx with rfl | hx
  ·omega
  ·exact this.2 x hx
theorem fold_le {ks:List Int} {c b:Int} (hc:c≤b) (h:∀ x∈ks,x≤b):ks.foldl max c≤b:=by
 induction ks generalizing c with
 | nil=>exact hc
 | cons y r ih =>
  simp only [List.foldl_cons]
  have:=h y (by simp)
  exact ih (by omega) fun x hx=>h x (by simp [hx])
theorem least_ge (f:Nf):f.1≤leastN f:=(fold_ge f.2 f.1).1
theorem least_at {f:Nf} (j:Nat) (h0:-1≤leastN f):atP f.2 j≤leastN f:=by
 by_cases h:j<f.2.length
 ·rw [atP_get h];exact (fold_ge f.2 f.1).2 _ (List.getElem_mem _)
 ·rw [atP_beyond (by omega)];exact h0
theorem least_le {f:Nf} {b:Int} (hc:f.1≤b) (h:∀ j:Nat,atP f.2 j≤b):leastN f≤b:=
 fold_le hc fun x hx=>by
  obtain ⟨j,hj,rfl⟩:=List.getElem_of_mem hx
  have:=h j
  rwa [atP_get hj] at this
theorem maxL_ge {ks:List Int}:∀ x∈ks,x≤maxL ks:=by
 cases ks with
 | nil=>intro x hx;cases hx
 | cons y r =>
  intro x hx
  rcases List.mem_cons.1 hx with rfl | hx
  ·exact (fold_ge r _).1
  ·exact (fold_ge r _).2 x hx
theorem maxL_mem {ks:List Int} (h:ks≠[]):maxL ks∈ks:=by
 cases ks with
 | nil=>exact absurd rfl h
 | cons y r =>
  have key:∀ (r:List Int) (c:Int),r.foldl max c=c∨r.foldl max c∈r:=by
   intro r
   induction r with
   | nil=>intro c;exact .inl rfl
   | cons z r ih =>
    intro c
    simp only [List.foldl_cons]
    rcases ih (max c z) with h | h
    ·by_cases hz:z≤c
     ·left;rw [h];omega
     ·right;rw [h];rw [show max c z=z by omega];simp
    ·right;exact List.mem_cons_of_mem _ h
  rcases key r y with h | h
  ·show r.foldl max y∈_;rw [h];simp
  ·exact List.mem_cons_of_mem _ h
theorem trim_le (ks:List Int) (j:Nat):trimTo ks j≤j:=by
 induction j with
 | zero=>rw [trimTo];omega
 | succ j ih=>rw [trimTo];split <;> omega
theorem trim_neg (ks:List Int):∀ (j i:Nat),trimTo ks j≤i→i<j→rd ks i<0:=by
 intro j
 induction j with
 | zero=>intro i _ h;omega
 | succ j ih =>
  intro i h1 h2
  rw [trimTo] at h1
  split at h1
  ·rename_i hn
   by_cases e:i=j
   ·subst e;exact hn
   ·exact ih i h1 (by omega)
  ·omega
theorem trim_last (ks:List Int) (j:Nat) (h:0<trimTo ks j):0≤rd ks ((trimTo ks j - 1:Nat):Int):=by
 induction j with
 | zero=>rw [trimTo] at h;omega
 | succ j ih =>
  rw [trimTo] at h ⊢
  split at h
  ·rename_i hn
   rw [if_pos hn]
   exact ih h
  ·rename_i hn
   rw [if_neg hn]
   have:rd ks ((j+1 - 1:Nat):Int)=rd ks (j:Nat):=rfl
   rw [this]
   omega
theorem atP_short {f:Nf} (hf:NfOk f) (j:Nat):atP (shortN f).2 j=atP f.2 j:=by
 have hle:=trim_le f.2 f.2.length
 have hl:(shortN f).2.length=trimTo f.2 f.2.length:=by simp [shortN];omega
 by_cases h1:j<trimTo f.2 f.2.length
 ·rw [atP_get (by rw [hl];exact h1),atP_get (show j<f.2.length by omega)]
  simp [shortN]
 ·rw [atP_beyond (by rw [hl];omega)]
  by_cases h2:j<f.2.length
  ·have h3:=trim_neg f.2 f.2.length j (by omega) h2
   have h4:=atP_ge hf j
   rw [atP_lt h2] at h4 ⊢
   omega
  ·rw [atP_beyond (by omega)]
theorem short_fst (f:Nf):(shortN f).1=if f.2≠[]∧f.1≤maxL f.2 then 0 else f.1:=rfl
theorem least_short {f:Nf} (hf:NfOk f):leastN (shortN f)=leastN f:=by
 have h0:=hf.1
 have hge:=least_ge f
 apply Int.le_antisymm
 ·refine least_le ?_ fun j=>by rw [atP_short hf];exact least_at j (by omega)
  rw [short_fst];split <;> omega
 ·have hs0:0≤(shortN f).1:=by rw [short_fst];split <;> omega
  have hsg:=least_ge (shortN f)
  refine least_le ?_ fun j=>by rw [← atP_short hf];exact least_at j (by omega)
  by_cases hz:f.2≠[]∧f.1≤maxL f.2
  ·obtain ⟨j,hj,hjm⟩:=List.getElem_of_mem (maxL_mem hz.1)
   have h1:=least_at (f:=shortN f) j (by omega)
   rw [atP_short hf,atP_get hj,hjm] at h1
   omega
  ·rw [short_fst,if_neg hz] at hsg;exact hsg
def leqR (f h:Nf):Prop:=(∀ j:Nat,atP f.2 j≤atP h.2 j)∧f.1≤leastN h
def eqR (f h:Nf):Prop:=(∀ j:Nat,atP f.2 j=atP h.2 j)∧leastN f=leastN h
theorem short_len {f h:Nf} (hf:NfOk f) (hh:NfOk h) (ha:∀ j:Nat,atP f.2 j=atP h.2 j):(shortN f).2.length=(shortN h).2.length:=by
 have key:∀ {f h:Nf},NfOk f→NfOk h→(∀ j:Nat,atP f.2 j=atP h.2 j)→¬ (shortN h).2.length<(shortN f).2.length:=by
  intro f h hf hh ha hlt
  have hle:=trim_le f.2 f.2.length
  have hl:(shortN f).2.length=trimTo f.2 f.2.length:=by simp [shortN];omega
  have h1:=trim_last f.2 f.2.length (by omega)
  have h2:atP (shortN h).2 ((trimTo f.2 f.2.length - 1:Nat):Int) = -1:=atP_beyond (by omega)
  rw [atP_short hh,← ha,atP_lt (by omega)] at h2
  omega
 have h1:=key hf hh ha
 have h2:=key hh hf fun j=>(ha j).symm
 omega
theorem short_max {f:Nf} (hf:NfOk f):(shortN f).1=if f.2≠[]∧f.1≤maxL f.2 then 0 else leastN f:=by
 rw [short_fst]
 split
 ·rfl
 ·rename_i hz
  have h0:=hf.1
  apply Int.le_antisymm (least_ge f)
  refine least_le (Int.le_refl _) fun j=>?_
  by_cases hj:j<f.2.length
  ·rw [atP_get hj]
   have h1:=maxL_ge _ (List.getElem_mem hj)
   have:f.2≠[]:=by intro e;rw [e] at hj;simp at hj
   by_cases h2:f.1≤maxL f.2
   ·exact absurd ⟨this,h2⟩ hz
   ·omega
  ·rw [atP_beyond (by omega)];omega
theorem zero_iff {f:Nf} (hf:NfOk f):(f.2≠[]∧f.1≤maxL f.2)↔∃ j:Nat,atP f.2 j=leastN f:=by
 have h0:=hf.1
 have hge:=least_ge f
 constructor
 ·rintro ⟨h1,h2⟩
  obtain ⟨j,hj,hjm⟩:=List.getElem_of_mem (maxL_mem h1)
  refine ⟨j,Int.le_antisymm (least_at j (by omega)) ?_⟩
  rw [atP_get hj,hjm]
  exact fold_le h2 fun x hx=>maxL_ge x hx
 ·rintro ⟨j,hj⟩
  by_cases hlt:j<f.2.length
  ·refine ⟨by intro e;rw [e] at hlt;simp at hlt,?_⟩
   rw [atP_get hlt] at hj
   have:=maxL_ge _ (List.getElem_mem hlt)
   omega
  ·rw [atP_beyond (by omega)] at hj;omega
theorem short_eq {f h:Nf} (hf:NfOk f) (hh:NfOk h):shortN f=shortN h↔eqR f h:=by
 constructor
 ·intro e
  exact ⟨fun j=>by rw [← atP_short hf,← atP_short hh,e],by rw [← least_short hf,← least_short hh,e]⟩
 ·rintro ⟨ha,hl⟩
  refine nf_ext ?_ (short_len hf hh ha) fun j=>by rw [atP_short hf,atP_short hh,ha]
  have hz:(f.2≠[]∧f.1≤maxL f.2)↔(h.2≠[]∧h.1≤maxL h.2):=by
   rw [zero_iff hf,zero_iff hh,hl]
   exact ⟨fun ⟨j,e⟩=>⟨j,by rw [← ha];exact e⟩,fun ⟨j,e⟩=>⟨j,by rw [ha];exact e⟩⟩
  rw [short_max hf,short_max hh,hl]
  by_cases hc:f.2≠[]∧f.1≤maxL f.2
  ·rw [if_pos hc,if_pos (hz.1 hc)]
  ·rw [if_neg hc,if_neg fun h'=>hc (hz.2 h')]
theorem eqP_iff {a b:Lv} (ha:soundB a=true) (hb:soundB b=true):eqP a b=true↔eqR (sumP a) (sumP b):=by rw [eqP_3 ha hb,decide_eq_true_iff];exact short_eq (sumP_ok ha) (sumP_ok hb)
theorem eqR_leqR {f h:Nf} (hf:NfOk f) (hh:NfOk h):eqR f h↔leqR f h∧leqR h f:=by
 have h0:=hf.1
 have h1:=hh.1
 have g0:=least_ge f
 have g1:=least_ge h
 constructor
 ·rintro ⟨ha,hl⟩
  exact ⟨⟨fun j=>by rw [ha];omega,by omega⟩,⟨fun j=>by rw [ha];omega,by omega⟩⟩
 ·rintro ⟨⟨ha,hl⟩,⟨ha',hl'⟩⟩
  have he:∀ j:Nat,atP f.2 j=atP h.2 j:=fun j=>Int.le_antisymm (ha j) (ha' j)
  exact ⟨he,Int.le_antisymm (least_le hl fun j=>by rw [he];exact least_at j (by omega)) (least_le hl' fun j=>by rw [← he];exact least_at j (by omega))⟩
end Go.Proofs.Ytdboloabpjmgaaa

namespace Go.Proofs.Ytdboloabpjmgaaa
open Go.RowKit Go.Proofs.YtdboloabpjmgaaaW.PrintWords Go.RegionInvYtdboloabpjmgaaa Go.RegionEYtdboloabpjmgaaa
section
variable {ops:Array Oper} {Q:Exit→Act→World→Prop} {R:Nat→Prop} {a:Act} {w:World} {o:Oper} {T:Nat→Prop}

end

theorem pl_new {n:Int} {l:Lv} (hn:1≤n) (h3:l.kind≠3):plP n l=.mk 3 n [owP l]:=plP_new (by omega) h3
theorem kind3 {l:Lv} (hg:Good l) (h3:l.kind=3):∃ m x,l=.mk 3 m [x]∧1≤m∧m≤1099511627776∧Good x:=by
 obtain ⟨k,n,ks⟩:=l
 obtain rfl:k=3:=h3
 rcases good_cases hg with ⟨h,_⟩ | ⟨h,_⟩ | ⟨_,x,rfl,h0,h1,hx⟩ | ⟨h,_⟩
 ·omega
 ·omega
 ·exact ⟨n,x,rfl,h0,h1,hx⟩
 ·omega
theorem pl_succ {n m:Int} {x:Lv} (hs:soundB (.mk 3 m [x])=true) (hn:1≤n) (h0:1≤m) (h1:m≤1099511627776):plP n (.mk 3 m [x])=.mk 3 (min 1099511627776 (n+m)) [cpP x]:=by
 rw [plP_succ (by omega) rfl,own_eq hs,cpP,cpKs,cpKs]
 simp only [Lv.kind,Lv.num,Lv.kids]
 congr 1
 omega
theorem addN_addN {a b x:Int} (ha:0≤a) (hb:0≤b):addN a (addN b x)=addN (a+b) x:=by
 unfold addN
 by_cases hx:0≤x
 ·rw [if_pos hx,if_pos hx,if_pos (by omega)];omega
 ·rw [if_neg hx,if_neg hx,if_neg hx]
theorem addN_cap {a x:Int} (ha:0≤a):addN (min 1099511627776 a) x=addN a x:=by
 unfold addN
 split <;> omega
theorem plusN_plusN {a b:Int} {f:Nf} (ha:0≤a) (hb:0≤b) (_hf:0≤f.1):plusN a (plusN b f)=plusN (a+b) f:=by
 unfold plusN
 refine Prod.ext (by simp only [];omega) ?_
 simp only [List.map_map]
 exact List.map_congr_left fun x _=>addN_addN ha hb
theorem plusN_cap {a:Int} {f:Nf} (ha:0≤a) (hf:0≤f.1):plusN (min 1099511627776 a) f=plusN a f:=by
 unfold plusN
 refine Prod.ext (by simp only [];omega) (List.map_congr_left fun x _=>addN_cap ha)
theorem pl_sum {n:Int} {l:Lv} (hs:soundB l=true) (hn:1≤n):sumP (plP n l)=plusN n (sumP l):=by
 by_cases h3:l.kind=3
 ·obtain ⟨m,x,rfl,h0,h1,hx⟩:=kind3 (good_of_sound hs) h3
  have hok:NfOk (ofP [] x):=ofP_ok (fun _ h=>by cases h) hx
  rw [pl_succ hs hn h0 h1]
  show ofP [] _=plusN n (ofP [] _)
  rw [ofP_succ,ofP_succ,(cp_both hx).2,plusN_cap (by omega) hok.1,plusN_plusN (by omega) (by omega) hok.1]
 ·rw [pl_new hn h3]
  show ofP [] _=_
  rw [ofP_succ]
  exact congrArg (plusN n) (own_sum hs)
theorem atP_plus (n:Int) (f:Nf) (j:Nat):atP (plusN n f).2 j=addN n (atP f.2 j):=by
 have hl:(plusN n f).2.length=f.2.length:=by simp [plusN]
 by_cases hj:j<f.2.length
 ·rw [atP_get (by rw [hl];exact hj),atP_get hj];simp [plusN]
 ·rw [atP_beyond (by omega),atP_beyond (by omega)];rfl
theorem plus_fst (n:Int) (f:Nf):(plusN n f).1=min 1099511627776 (f.1+n):=rfl
def Sml (f:Nf) (b:Int):Prop:=f.1≤b∧∀ j:Nat,atP f.2 j≤b
end Go.Proofs.Ytdboloabpjmgaaa

namespace Go.Proofs.Ytdboloabpjmgaaa
open Go.RowKit Go.Proofs.YtdboloabpjmgaaaW.PrintWords Go.RegionInvYtdboloabpjmgaaa Go.RegionEYtdboloabpjmgaaa

def vAt (vs:List Int) (i:Nat):Int:=if i<vs.length then min 1099511627776 (max 0 (rd vs (i:Nat))) else 0
def valK (vs:List Int) (f:Nf):Nat→Int
 | 0=>f.1
 | j+1=>if rd f.2 (j:Nat)<0 then valK vs f j else max (valK vs f j) (min 1099511627776 (vAt vs j+rd f.2 (j:Nat)))
def valN (vs:List Int) (f:Nf):Int:=valK vs f f.2.length
theorem vAt_in (vs:List Int) (i:Nat):0≤vAt vs i∧vAt vs i≤1099511627776:=by unfold vAt;split <;> omega
mutual
def valR (vs:List Int):Lv→Int
 | .mk k n ks=>if k=1 then n else if k=2 then vAt vs n.toNat else if k=3 then min 1099511627776 (val0 vs ks+n) else max (val0 vs ks) (val1 vs ks)
def val0 (vs:List Int):List Lv→Int
 | []=>0
 | x :: _=>valR vs x
def val1 (vs:List Int):List Lv→Int
 | []=>0
 | _ :: r=>val0 vs r
end
theorem valR_num (vs:List Int) (n:Int) (ks:List Lv):valR vs (.mk 1 n ks)=n:=by rw [valR];rfl
theorem valR_var (vs:List Int) (n:Int) (ks:List Lv):valR vs (.mk 2 n ks)=vAt vs n.toNat:=by rw [valR];rfl
theorem valR_succ (vs:List Int) (n:Int) (x:Lv):valR vs (.mk 3 n [x])=min 1099511627776 (valR vs x+n):=by rw [valR,val0];rfl
theorem valR_max (vs:List Int) (n:Int) (x y:Lv):valR vs (.mk 4 n [x,y])=max (valR vs x) (valR vs y):=by rw [valR,val0,val1,val0];rfl
theorem valK_le {vs:List Int} {f:Nf} {b:Int} (j:Nat):valK vs f j≤b↔f.1≤b∧∀ i:Nat,i<j→0≤rd f.2 (i:Nat)→min 1099511627776 (vAt vs i+rd f.2 (i:Nat))≤b:=by
 induction j with
 | zero=>rw [valK];exact ⟨fun h=>⟨h,fun i hi=>by omega⟩,fun h=>h.1⟩
 | succ j ih =>
  rw [valK]
  by_cases hn:rd f.2 (j:Nat)<0
  ·rw [if_pos hn,ih]
   refine ⟨fun h=>⟨h.1,fun i hi h0=>?_⟩,fun h=>⟨h.1,fun i hi=>h.2 i (by omega)⟩⟩
   by_cases e:i=j
   ·subst e;omega
   ·exact h.2 i (by omega) h0
  ·rw [if_neg hn]
   constructor
   ·intro h
    have h1:=ih.1 (show valK vs f j≤b by omega)
    refine ⟨h1.1,fun i hi h0=>?_⟩
    by_cases e:i=j
    ·subst e;omega
    ·exact h1.2 i (by omega) h0
   ·intro h
    have h1:=ih.2 ⟨h.1,fun i hi=>h.2 i (by omega)⟩
    have h2:=h.2 j (by omega) (by omega)
    omega
theorem valN_le {vs:List Int} {f:Nf} {b:Int}:valN vs f≤b↔f.1≤b∧∀ i:Nat,0≤atP f.2 i→min 1099511627776 (vAt vs i+atP f.2 i)≤b:=by
 unfold valN
 rw [valK_le]
 refine and_congr Iff.rfl ⟨fun h i h0=>?_,fun h i hi h0=>?_⟩
 ·by_cases hi:i<f.2.length
  ·rw [atP_lt hi] at h0 ⊢;exact h i hi h0
  ·rw [atP_beyond (by omega)] at h0;omega
 ·have:=h i
  rw [atP_lt hi] at this
  exact this h0
theorem le_ext {x y:Int} (h:∀ b,x≤b↔y≤b):x=y:=Int.le_antisymm ((h y).2 (Int.le_refl _)) ((h x).1 (Int.le_refl _))
theorem valN_or (vs:List Int) (f g:Nf):valN vs (orN f g)=max (valN vs f) (valN vs g):=by
 refine le_ext fun b=>?_
 rw [valN_le,or_fst,show max (valN vs f) (valN vs g)≤b↔valN vs f≤b∧valN vs g≤b by omega,valN_le,valN_le]
 constructor
 ·rintro ⟨h1,h2⟩
  refine ⟨⟨by omega,fun i h0=>?_⟩,⟨by omega,fun i h0=>?_⟩⟩
  ·have:=h2 i;rw [atP_or] at this;have:=this (by omega);omega
  ·have:=h2 i;rw [atP_or] at this;have:=this (by omega);omega
 ·rintro ⟨⟨h1,h2⟩,⟨h3,h4⟩⟩
  refine ⟨by omega,fun i h0=>?_⟩
  rw [atP_or] at h0 ⊢
  have h5:=h2 i
  have h6:=h4 i
  by_cases ha:0≤atP f.2 i
  ·have h5:=h5 ha
   by_cases hb:0≤atP g.2 i
   ·have h6:=h6 hb;omega
   ·omega
  ·have h6:=h6 (by omega)
   omega
theorem valN_plus (vs:List Int) {f:Nf} {n:Int} (_hf:NfOk f) (h0:0≤n):valN vs (plusN n f)=min 1099511627776 (valN vs f+n):=by
 refine le_ext fun b=>?_
 rw [valN_le,show min 1099511627776 (valN vs f+n)≤b↔1099511627776≤b∨valN vs f≤b - n by omega,valN_le,show (plusN n f).1=min 1099511627776 (f.1+n) from rfl]
 have hat:∀ i:Nat,atP (plusN n f).2 i=addN n (atP f.2 i):=fun i=>by
  have hl:(plusN n f).2.length=f.2.length:=by simp [plusN]
  by_cases hj:i<f.2.length
  ·rw [atP_get (by rw [hl];exact hj),atP_get hj];simp [plusN]
  ·rw [atP_beyond (by omega),atP_beyond (by omega)];rfl
 constructor
 ·rintro ⟨h1,h2⟩
  by_cases hb:1099511627776≤b
  ·exact .inl hb
  ·refine .inr ⟨by omega,fun i hi=>?_⟩
   have h3:=h2 i
   have:=vAt_in vs i
   rw [hat] at h3
   unfold addN at h3
   rw [if_pos hi] at h3
   have:=h3 (by omega)
   omega
 ·intro h
  refine ⟨by omega,fun i hi=>?_⟩
  rw [hat] at hi ⊢
  have:=vAt_in vs i
  unfold addN at hi ⊢
  by_cases ha:0≤atP f.2 i
  ·rw [if_pos ha]
   rcases h with h | ⟨h1,h2⟩
   ·omega
   ·have:=h2 i ha;omega
  ·rw [if_neg ha] at hi;omega
theorem atP_varN (n j:Nat):atP (List.replicate n (-1:Int) ++ [0]) j=if j=n then 0 else -1:=by
 by_cases hj:j<(List.replicate n (-1:Int) ++ [0]).length
 ·rw [atP_get hj]
  by_cases e:j=n
  ·subst e;rw [if_pos rfl];simp
  ·rw [if_neg e]
   have:j<n:=by simp at hj;omega
   rw [List.getElem_append_left (by simpa using this)];simp
 ·rw [atP_beyond (by omega),if_neg];simp at hj;omega
theorem valN_sum (vs:List Int):∀ {l:Lv},Good l→valN vs (sumP l)=valR vs l:=by
 intro l h
 induction h with
 | @mk k n ks h hk ih =>
  rcases good_cases (.mk h hk) with ⟨rfl,rfl,h0,h1⟩ | ⟨rfl,rfl,h0,h1⟩ | ⟨rfl,x,rfl,h0,h1,hx⟩ | ⟨rfl,x,y,rfl,-,-⟩
  ·rw [valR_num]
   show valN vs (ofP [] _)=_
   rw [ofP_num];rfl
  ·rw [valR_var]
   show valN vs (ofP [] _)=_
   rw [ofP_var]
   have hv:varN [] n=(0,List.replicate n.toNat (-1) ++ [0]):=by unfold varN;rw [if_neg (by simp;omega)]
   rw [hv]
   refine le_ext fun b=>?_
   rw [valN_le]
   have hv:=vAt_in vs n.toNat
   constructor
   ·rintro ⟨h2,h3⟩
    have:=h3 n.toNat
    rw [show (0,List.replicate n.toNat (-1:Int) ++ [0]).2=List.replicate n.toNat (-1:Int) ++ [0] from rfl,atP_varN,if_pos rfl] at this
    have:=this (by omega)
    omega
   ·intro h2
    refine ⟨by simp only [];omega,fun i hi=>?_⟩
    rw [show (0,List.replicate n.toNat (-1:Int) ++ [0]).2=List.replicate n.toNat (-1:Int) ++ [0] from rfl,atP_varN] at hi ⊢
    by_cases e:i=n.toNat
    ·subst e;rw [if_pos rfl];omega
    ·rw [if_neg e] at hi;omega
  ·rw [valR_succ]
   show valN vs (ofP [] _)=_
   rw [ofP_succ,valN_plus vs (ofP_ok (fun _ h=>by cases h) hx) (by omega)]
   rw [← ih x (by simp)];rfl
  ·rw [valR_max]
   show valN vs (ofP [] _)=_
   rw [ofP_max,valN_or,← ih x (by simp),← ih y (by simp)];rfl
def valB (vs:List Int) (l:Lv):Int:=if soundB l=true then valN vs (sumP l) else 0
theorem valB_yes {vs:List Int} {l:Lv} (h:soundB l=true):valB vs l=valN vs (sumP l):=if_pos h
theorem vAt_lt {vs:List Int} {i:Nat} (h:i<vs.length):vAt vs i=min 1099511627776 (max 0 (rd vs (i:Nat))):=if_pos h
end Go.Proofs.Ytdboloabpjmgaaa

namespace Go.Proofs.Ytdboloabpjmgaaa
open Go.RowKit Go.Proofs.YtdboloabpjmgaaaW.PrintWords

def varL (k:Int) (i:Nat):Lv:=plP k (.mk 2 i [])
def partsK (f:Nf):Nat→List Lv
 | 0=>if 0<f.1∨f.2=[] then [.mk 1 f.1 []] else []
 | j+1=>partsK f j ++ (if 0≤rd f.2 (j:Nat) then [varL (rd f.2 (j:Nat)) j] else [])
def partsN (f:Nf):List Lv:=partsK f f.2.length
def foldM:Lv→List Lv→Lv
 | o,[]=>o
 | o,p :: r=>foldM (.mk 4 0 [o,p]) r
def lvlN (f:Nf):Lv:=match partsN f with
 | []=>.mk 0 0 []
 | x :: r=>foldM x r
theorem foldM_snoc (o:Lv) (r:List Lv) (p:Lv):foldM o (r ++ [p])=.mk 4 0 [foldM o r,p]:=by
 induction r generalizing o with
 | nil=>rfl
 | cons q r ih=>exact ih _
theorem var_sound {i:Nat} (hi:i≤1000):soundB (.mk 2 i [])=true:=by
 rw [sound_iff,sz_mk,dp_mk,szs_nil,dps_nil]
 exact ⟨good_var (by omega) (by omega),by omega,by omega⟩
theorem var_sum (i:Nat):sumP (.mk 2 i [])=(0,List.replicate i (-1) ++ [0]):=by
 show ofP [] _=_
 rw [ofP_var]
 unfold varN;rw [if_neg (by simp),Int.toNat_natCast]
theorem varL_sum {k:Int} {i:Nat} (h0:0≤k) (h1:k≤1099511627776) (hi:i≤1000):(sumP (varL k i)).1=k∧∀ j:Nat,atP (sumP (varL k i)).2 j=if j=i then k else -1:=by
 unfold varL
 by_cases hk:k<1
 ·obtain rfl:k=0:=by omega
  rw [plP_own (by decide),own_sum (var_sound hi),var_sum]
  exact ⟨rfl,fun j=>atP_varN i j⟩
 ·rw [pl_sum (var_sound hi) (by omega),var_sum]
  refine ⟨by rw [plus_fst];simp only [];omega,fun j=>?_⟩
  rw [atP_plus]
  simp only []
  rw [atP_varN]
  split
  ·unfold addN;rw [if_pos (by decide)];omega
  ·rfl
theorem fold_sum (o:Lv) (r:List Lv):sumP (foldM o r)=(r.map sumP).foldl orN (sumP o):=by
 induction r generalizing o with
 | nil=>rfl
 | cons p r ih =>
  rw [foldM,ih]
  show _=(r.map sumP).foldl orN (orN (sumP o) (sumP p))
  congr 1
theorem fold_at {s:Nf} {l:List Nf} {j:Nat} {b:Int}:atP (l.foldl orN s).2 j≤b↔atP s.2 j≤b∧∀ p∈l,atP p.2 j≤b:=by
 induction l generalizing s with
 | nil=>exact ⟨fun h=>⟨h,fun p hp=>by cases hp⟩,fun h=>h.1⟩
 | cons p r ih =>
  rw [List.foldl_cons,ih,atP_or]
  constructor
  ·rintro ⟨h1,h2⟩
   refine ⟨by omega,fun q hq=>?_⟩
   rcases List.mem_cons.1 hq with rfl | hq
   ·omega
   ·exact h2 q hq
  ·rintro ⟨h1,h2⟩
   have:=h2 p (by simp)
   exact ⟨by omega,fun q hq=>h2 q (by simp [hq])⟩
theorem fold_fst {s:Nf} {l:List Nf} {b:Int}:(l.foldl orN s).1≤b↔s.1≤b∧∀ p∈l,p.1≤b:=by
 induction l generalizing s with
 | nil=>exact ⟨fun h=>⟨h,fun p hp=>by cases hp⟩,fun h=>h.1⟩
 | cons p r ih =>
  rw [List.foldl_cons,ih,or_fst]
  constructor
  ·rintro ⟨h1,h2⟩
   refine ⟨by omega,fun q hq=>?_⟩
   rcases List.mem_cons.1 hq with rfl | hq
   ·omega
   ·exact h2 q hq
  ·rintro ⟨h1,h2⟩
   have:=h2 p (by simp)
   exact ⟨by omega,fun q hq=>h2 q (by simp [hq])⟩
theorem lvl_at {f:Nf} {j:Nat} {b:Int} (hne:partsN f≠[]):atP (sumP (lvlN f)).2 j≤b↔∀ p∈partsN f,atP (sumP p).2 j≤b:=by
 unfold lvlN
 cases h:partsN f with
 | nil=>exact absurd h hne
 | cons x r =>
  simp only []
  rw [fold_sum,fold_at]
  exact ⟨fun h p hp=>by
   rcases List.mem_cons.1 hp with rfl | hp
   ·exact h.1
   ·exact h.2 _ (List.mem_map_of_mem hp),fun h=>⟨h x (by simp),fun q hq=>by
   obtain ⟨p,hp,rfl⟩:=List.mem_map.1 hq
   exact h p (by simp [hp])⟩⟩
theorem lvl_fst {f:Nf} {b:Int} (hne:partsN f≠[]):(sumP (lvlN f)).1≤b↔∀ p∈partsN f,(sumP p).1≤b:=by
 unfold lvlN
 cases h:partsN f with
 | nil=>exact absurd h hne
 | cons x r =>
  simp only []
  rw [fold_sum,fold_fst]
  exact ⟨fun h p hp=>by
   rcases List.mem_cons.1 hp with rfl | hp
   ·exact h.1
   ·exact h.2 _ (List.mem_map_of_mem hp),fun h=>⟨h x (by simp),fun q hq=>by
   obtain ⟨p,hp,rfl⟩:=List.mem_map.1 hq
   exact h p (by simp [hp])⟩⟩
theorem mem_parts {f:Nf} {p:Lv} (n:Nat):p∈partsK f n↔((0<f.1∨f.2=[])∧p=.mk 1 f.1 [])∨∃ i:Nat,i<n∧0≤rd f.2 (i:Nat)∧p=varL (rd f.2 (i:Nat)) i:=by
 induction n with
 | zero =>
  rw [partsK]
  split
  ·rename_i h
   simp [h]
  ·rename_i h
   simp [h]
 | succ n ih =>
  rw [partsK,List.mem_append,ih]
  constructor
  ·rintro ((h | ⟨i,hi,h0,hp⟩) | h)
   ·exact .inl h
   ·exact .inr ⟨i,by omega,h0,hp⟩
   ·split at h
    ·rename_i h0
     exact .inr ⟨n,by omega,h0,by simpa using h⟩
    ·cases h
  ·rintro (h | ⟨i,hi,h0,hp⟩)
   ·exact .inl (.inl h)
   ·by_cases e:i=n
    ·subst e
     right
     rw [if_pos h0]
     simpa using hp
    ·exact .inl (.inr ⟨i,by omega,h0,hp⟩)
theorem num_sum (c:Int):sumP (.mk 1 c [])=(c,[]):=by
 show ofP [] _=_
 rw [ofP_num]
theorem lvl_sum {f:Nf} (hf:NfOk f) (hlen:f.2.length≤1001) (hne:partsN f≠[]):eqR (sumP (lvlN f)) f:=by
 have h0:=hf.1
 have hvar:∀ i:Nat,i<f.2.length→0≤rd f.2 (i:Nat)→(sumP (varL (rd f.2 (i:Nat)) i)).1=rd f.2 (i:Nat)∧∀ j:Nat,atP (sumP (varL (rd f.2 (i:Nat)) i)).2 j=if j=i then rd f.2 (i:Nat) else -1:=by
  intro i hi hr
  have h1:=atP_ok hf.2.2.1 i
  rw [atP_lt hi] at h1
  exact varL_sum hr h1.2 (by omega)
 have hge:∀ p∈partsN f,∀ j:Nat,-1≤atP (sumP p).2 j:=by
  intro p hp j
  rcases (mem_parts _).1 hp with ⟨_,rfl⟩ | ⟨i,hi,hr,rfl⟩
  ·rw [num_sum,atP_beyond (by simp)];omega
  ·rw [(hvar i hi hr).2];split <;> omega
 have hat:∀ j:Nat,atP (sumP (lvlN f)).2 j=atP f.2 j:=by
  intro j
  refine le_ext fun b=>?_
  rw [lvl_at hne]
  constructor
  ·intro h
   have hb:-1≤b:=by
    obtain ⟨p,hp⟩:=List.exists_mem_of_ne_nil _ hne
    exact Int.le_trans (hge p hp j) (h p hp)
   by_cases hj:j<f.2.length
   ·rw [atP_lt hj]
    by_cases hr:0≤rd f.2 (j:Nat)
    ·have:=h _ ((mem_parts _).2 (.inr ⟨j,hj,hr,rfl⟩))
     rw [(hvar j hj hr).2,if_pos rfl] at this
     exact this
    ·omega
   ·rw [atP_beyond (by omega)];exact hb
  ·intro h p hp
   have hb:=atP_ge hf j
   rcases (mem_parts _).1 hp with ⟨_,rfl⟩ | ⟨i,hi,hr,rfl⟩
   ·rw [num_sum,atP_beyond (by simp)];omega
   ·rw [(hvar i hi hr).2]
    split
    ·rename_i e;subst e;rw [← atP_lt hi];exact h
    ·omega
 refine ⟨hat,Int.le_antisymm ?_ ?_⟩
 ·have hgl:=least_ge f
  refine least_le ((lvl_fst hne).2 fun p hp=>?_) fun j=>by rw [hat];exact least_at j (by omega)
  rcases (mem_parts _).1 hp with ⟨_,rfl⟩ | ⟨i,hi,hr,rfl⟩
  ·rw [num_sum];exact hgl
  ·rw [(hvar i hi hr).1,← atP_lt hi];exact least_at i (by omega)
 ·have hfs:=(lvl_fst (f:=f) (b:=(sumP (lvlN f)).1) hne).1 (Int.le_refl _)
  have hgs:=least_ge (sumP (lvlN f))
  have hp0:0≤(sumP (lvlN f)).1:=by
   obtain ⟨p,hp⟩:=List.exists_mem_of_ne_nil _ hne
   have:=hfs p hp
   rcases (mem_parts _).1 hp with ⟨_,rfl⟩ | ⟨i,hi,hr,rfl⟩
   ·rw [num_sum] at this;simp only [] at this;omega
   ·rw [(hvar i hi hr).1] at this;omega
  refine least_le ?_ fun j=>by rw [← hat];exact least_at j (by omega)
  by_cases hc:0<f.1∨f.2=[]
  ·have:=hfs _ ((mem_parts _).2 (.inl ⟨hc,rfl⟩))
   rw [num_sum] at this
   simp only [] at this
   omega
  ·omega
theorem len_le {l:Lv} (h:Good l):(sumP l).2.length≤1001:=by
 induction h with
 | @mk k n ks h hk ih =>
  rcases good_cases (.mk h hk) with ⟨rfl,rfl,h0,h1⟩ | ⟨rfl,rfl,h0,h1⟩ | ⟨rfl,x,rfl,h0,h1,-⟩ | ⟨rfl,x,y,rfl,-,-⟩
  ·rw [num_sum];simp
  ·obtain ⟨i,rfl⟩:=Int.eq_ofNat_of_zero_le h0
   have:sumP (.mk 2 (i:Int) [])=_:=var_sum i
   rw [this];simp;omega
  ·have:=ih x (by simp)
   show (ofP [] _).2.length≤_
   rw [ofP_succ]
   have e:sumP x=ofP [] x:=rfl
   rw [e] at this
   simpa [plusN] using this
  ·have hx:=ih x (by simp)
   have hy:=ih y (by simp)
   show (ofP [] _).2.length≤_
   rw [ofP_max,or_len]
   have ex:sumP x=ofP [] x:=rfl
   have ey:sumP y=ofP [] y:=rfl
   rw [ex] at hx;rw [ey] at hy
   omega
theorem short_len_le (f:Nf):(shortN f).2.length≤f.2.length:=by
 have:=trim_le f.2 f.2.length
 simp [shortN];omega
theorem short_ok {f:Nf} (hf:NfOk f):NfOk (shortN f):=by
 have hl:=short_len_le f
 refine ⟨by rw [short_fst];have:=hf.1;split <;> omega,by rw [short_fst];have:=hf.2.1;split <;> omega,fun x hx=>hf.2.2.1 x (List.mem_of_mem_take hx),by have:=hf.2.2.2;omega⟩
theorem parts_ne {f:Nf} (hf:NfOk f):partsN (shortN f)≠[]:=by
 intro h
 have hall:∀ p,¬ p∈partsN (shortN f):=by rw [h];intro p hp;cases hp
 have hok:=short_ok hf
 by_cases hc:0<(shortN f).1∨(shortN f).2=[]
 ·exact hall _ ((mem_parts _).2 (.inl ⟨hc,rfl⟩))
 ·have hz:(shortN f).2.length≠0:=fun e=>hc (.inr (List.eq_nil_of_length_eq_zero e))
  have hle:=trim_le f.2 f.2.length
  have hl:(shortN f).2.length=trimTo f.2 f.2.length:=by simp [shortN];omega
  have h1:=trim_last f.2 f.2.length (by omega)
  have h2:rd (shortN f).2 ((trimTo f.2 f.2.length - 1:Nat):Int)=rd f.2 ((trimTo f.2 f.2.length - 1:Nat):Int):=by
   rw [← atP_lt (by omega),← atP_lt (by omega),atP_short hf]
  exact hall _ ((mem_parts _).2 (.inr ⟨trimTo f.2 f.2.length - 1,by omega,by rw [h2];exact h1,rfl⟩))
theorem parts_len (f:Nf) (n:Nat):(partsK f n).length≤n+1:=by
 induction n with
 | zero=>rw [partsK];split <;> simp
 | succ n ih =>
  rw [partsK,List.length_append]
  have:(if 0≤rd f.2 (n:Nat) then [varL (rd f.2 (n:Nat)) n] else []).length≤1:=by split <;> simp
  omega
end Go.Proofs.Ytdboloabpjmgaaa

namespace Go.Proofs.Ytdboloabpjmgaaa
open Go.RowKit Go.Proofs.YtdboloabpjmgaaaW.PrintWords Go.RegionInvYtdboloabpjmgaaa Go.RegionEYtdboloabpjmgaaa

structure PK (w wr:World) (c:Int) (B:Value) (V:Value) (xs:List Lv):Prop where
 x1:wr.heap[w.heap.size]?=some (.cells #[.int .i64 c,B] 102 (0,0))
 x2:wr.heap[w.heap.size+1]?=some (.cells #[.int .i64 0,.int .i64 0,.slice none 0 0] 25 (0,0))
 kids:KidsAt wr (w.heap.size+2) V xs
 bel:Below w.heap.size w wr
theorem PK.later {w wr w':World} {c:Int} {B V:Value} {xs:List Lv} (h:PK w wr c B V xs) (hb:Below wr.heap.size wr w'):PK w w' c B V xs:=
 ⟨blk_below h.x1 hb,blk_below h.x2 hb,h.kids.later hb,below_then h.bel h.bel.size hb⟩
theorem PK.base {w wr:World} {c:Int} {B V:Value} {xs:List Lv} (h:PK w wr c B V xs):w.heap.size+2≤wr.heap.size:=by have:=blk_lt h.x2;omega
theorem pk_push {w w5 w6:World} {c:Int} {B V v6:Value} {xs:List Lv} {A5:Option Addr} {c5:Nat} {x:Lv} {cells:List Value} {fA:Nat→Option Addr} {fc:Nat→Nat} (h:PK w w5 c B V xs)
  (ho:w5.ownsRow (w.heap.size+2) 25 3 V xs.length cells)
  (hk:∀ (i:Nat) (x:Lv),xs[i]?=some x→cells[i * 3]?=some (.int .i64 x.kind)∧cells[i * 3+1]?=some (.int .i64 x.num)∧cells[i * 3+2]?=some (.slice (fA i) x.kids.length (fc i))∧LvS w5 (fun b=>w.heap.size+2≤b∧V.ownBlock≠some b) (fA i) (fc i) x)
  (hl:LvS w5 (fun b=>w.heap.size+2≤b∧V.ownBlock≠some b) A5 c5 x)
  (ho1:w6.ownsRow (w.heap.size+2) 25 3 v6 (xs.length+1) (cells ++ [.int .i64 x.kind,.int .i64 x.num,.slice A5 x.kids.length c5])) (hg:w5.grownBy w6 V.ownBlock) (hat:v6.ownBlock=V.ownBlock∨∃ b,v6.ownBlock=some b∧w5.heap.size≤b):PK w w6 c B v6 (xs ++ [x]):=by
 have far:∀ k,k<w.heap.size+2→some k≠V.ownBlock:=fun k hk e=>by have:=own_base ho k e.symm;omega
 refine ⟨?_,?_,KidsAt.push ho hk hl ho1 hg hat,⟨hg.os.trans h.bel.os,hg.tape.trans h.bel.tape,hg.output.trans h.bel.output,Nat.le_trans h.bel.size hg.size,fun i hi=>?_⟩⟩
 ·rw [hg.block _ (blk_lt h.x1) (far _ (by omega))];exact h.x1
 ·rw [hg.block _ (blk_lt h.x2) (far _ (by omega))];exact h.x2
 ·rw [hg.block i (Nat.lt_of_lt_of_le hi h.bel.size) (far i (by omega))];exact h.bel.block i hi
theorem leafS {w:World} {S S':Nat→Prop} {A:Option Addr} {c:Nat} {k n:Int} (h:LvS w S A c (.mk k n [])):LvS w S' A c (.mk k n []):=by
 cases h with
 | mk fA fc hc hm hcell hk=>exact .mk fA fc hc hm (fun i x hx=>by simp at hx) (fun i x hx=>by simp at hx)
theorem fresh_away {w wr w5:World} {c:Int} {B V:Value} {xs:List Lv} {A:Option Addr} {c5:Nat} {x:Lv} {m:Nat} (h:PK w wr c B V xs) (hm:wr.heap.size≤m) (hl:LvS w5 (fun b=>False∨m≤b) A c5 x):LvS w5 (fun b=>w.heap.size+2≤b∧V.ownBlock≠some b) A c5 x:=by
 have hb:=h.base
 obtain ⟨cells,fA,fc,ho,_⟩:=h.kids
 refine hl.mono fun b hb' _=>?_
 rcases hb' with hb' | hb'
 ·exact hb'.elim
 ·exact ⟨by omega,fun e=>by have:=own_lt ho b e;omega⟩
structure OutB (lo:Nat) (wc wr:World) (y:Lv) (A:Option Addr) (c:Nat):Prop where
 box:wr.heap[wc.heap.size]?=some (.cells #[.int .i64 y.kind,.int .i64 y.num,.slice A y.kids.length c] 25 (0,0))
 lv:LvS wr (fun b=>lo≤b∧b≠wc.heap.size) A c y
 bel:Below wc.heap.size wc wr
theorem outb_next {lo:Nat} {wc wr:World} {o q:Lv} {A6 A7:Option Addr} {c6 c7:Nat} (h:OutB lo wc wr o A6 c6) (hlo:lo≤wc.heap.size) (hq:LvS wc (fun b=>lo≤b) A7 c7 q) :
  OutB lo wc (((((wr.setCell ⟨wc.heap.size,0,none⟩ (.int .i64 4)).setCell ⟨wc.heap.size,1,none⟩ (.int .i64 0)).setCell ⟨wc.heap.size,2,none⟩ (.slice (some ⟨wr.heap.size+1,0,none⟩) 2 2)).alloc (.cells #[.int .i64 q.kind,.int .i64 q.num,.slice A7 q.kids.length c7] 25 (0,0))).alloc
   (.cells #[.int .i64 o.kind,.int .i64 o.num,.slice A6 o.kids.length c6,.int .i64 q.kind,.int .i64 q.num,.slice A7 q.kids.length c7] 25 (0,0))) (.mk 4 0 [o,q]) (some ⟨wr.heap.size+1,0,none⟩) 2:=by
 have hpz:=blk_lt h.box
 have hs3:=set3 (a:=.int .i64 4) (b:=.int .i64 0) (c:=.slice (some ⟨wr.heap.size+1,0,none⟩) 2 2) h.box
 have hc3:=chg_set3 wr wc.heap.size (.int .i64 4) (.int .i64 0) (.slice (some ⟨wr.heap.size+1,0,none⟩) 2 2)
 obtain ⟨w1,hw1⟩:∃ w1,w1=((wr.setCell ⟨wc.heap.size,0,none⟩ (.int .i64 4)).setCell ⟨wc.heap.size,1,none⟩ (.int .i64 0)).setCell ⟨wc.heap.size,2,none⟩ (.slice (some ⟨wr.heap.size+1,0,none⟩) 2 2):=⟨_,rfl⟩
 have hz1:w1.heap.size=wr.heap.size:=by rw [hw1];simp [World.setCell]
 rw [← hw1] at hs3 hc3 ⊢
 clear hw1
 have hch:=chg_trans (chg_trans hc3 (chg_alloc _ w1 (.cells #[.int .i64 q.kind,.int .i64 q.num,.slice A7 q.kids.length c7] 25 (0,0)))) (chg_alloc _ _ (.cells #[.int .i64 o.kind,.int .i64 o.num,.slice A6 o.kids.length c6,.int .i64 q.kind,.int .i64 q.num,.slice A7 q.kids.length c7] 25 (0,0)))
 have hn:=box1 w1 (.cells #[.int .i64 q.kind,.int .i64 q.num,.slice A7 q.kids.length c7] 25 (0,0)) (.cells #[.int .i64 o.kind,.int .i64 o.num,.slice A6 o.kids.length c6,.int .i64 q.kind,.int .i64 q.num,.slice A7 q.kids.length c7] 25 (0,0))
 rw [hz1] at hn
 have hql:=((hq.mono (S':=fun b=>lo≤b∧b≠wc.heap.size) fun b hb hz=>⟨hb,by omega⟩).later h.bel)
 refine ⟨blk_alloc (blk_alloc hs3 _) _,?_,Chg.trans_below h.bel hch (fun _ e=>by omega) h.bel.size⟩
 exact LvS.pair hn (h.lv.same fun b hb hz=>hch.block b hz hb.2) (hql.same fun b hb hz=>hch.block b hz hb.2) ⟨by omega,by omega⟩ 4 0
set_option maxHeartbeats 8000000 in
theorem level_calls (A:Option Addr) (n cap:Nat) (c:Int) (ks:List Int) (w:World) (hr:ReadsInt w .i64 A n ks) (hok:NfOk (c,ks)) (hlen:n≤1001) (hne:partsN (c,ks)≠[]) :
  Calls Try.prog 114 #[.agg #[.int .i64 c,.slice A n cap]] w (LvGot w (fun _=>False) (lvlN (c,ks))):=by
 have HR:=Ak hr
 have HN:=Ak hr.1
 have HOK:=Ak hok
 have HNE:=Ak hne
 have hc0:=hok.1
 clear hr hok hne
 obtain ⟨W,hW⟩:∃ W,W=((w.alloc (.cells #[.int .i64 c,.slice A n cap] 102 (0,0))).alloc (.cells #[.int .i64 0,.int .i64 0,.slice none 0 0] 25 (0,0))):=⟨_,rfl⟩
 have hst:PK w W c (.slice A n cap) (.slice none 0 0) []:=by
  rw [hW]
  exact ⟨box0 w _ _,box1 w _ _,KidsAt.nil _ _,below_alloc (below_alloc (Below.refl _ _) _) _⟩
 have HST:=Ak hst
 clear hst
 go_enter Try.func114,Try.ntmps114
 go_upto_region 2 with (fail)
 rw [← hW]
 clear hW
 obtain ⟨d0,d1,-,-⟩:=row2 HST.out.x1
 go_cut [17] (fun v wr=>v=.bool (decide (0<c∨ks=[]))∧wr=W)
 case first =>
  by_cases hc:0<c
  ·have HD:=Ak (show decide (0<c∨ks=[])=true from decide_eq_true (.inl hc))
   go_wp2
   go_meet
   case rel=>exact ⟨by rw [HD.out],by first | rfl | trivial⟩
  ·by_cases hn:n=0
   ·have HD:=Ak (show decide (0<c∨ks=[])=true from decide_eq_true (.inr (List.eq_nil_of_length_eq_zero (by rw [HN.out];exact hn))))
    have hb:((n:Int) == 0)=true:=by simp [hn]
    clear hn
    go_wp2
    go_meet
    case rel=>exact ⟨by rw [HD.out],by first | rfl | trivial⟩
   ·have HD:=Ak (show decide (0<c∨ks=[])=false from decide_eq_false fun h=>h.elim hc fun h=>hn (by rw [← HN.out,h];rfl))
    have hb:((n:Int) == 0)=false:=by simp;omega
    go_wp2
    go_meet
    case rel=>exact ⟨by rw [HD.out],by first | rfl | trivial⟩
 case rest =>
  obtain ⟨rfl,rfl⟩:=hcut
  obtain ⟨bb,hbb⟩:∃ bb,bb=decide (0<c∨ks=[]):=⟨_,rfl⟩
  rw [← hbb]
  have HP0:=Ak (show partsK (c,ks) 0=(if bb=true then [.mk 1 c []] else []) by
   rw [partsK,hbb];simp)
  clear hbb
  go_upto_if 17 with (fail)
  go_cut [3] (fun v wr=>Aside0 (PK w wr c (.slice A n cap) v (partsK (c,ks) 0)))
  case first =>
   cases bb with
   | true =>
    go_wp2_with (first
     | (go_at_call 128;go_must (refine (num_calls (fun _=>False) c _).mono ?_;rintro e w5 ⟨A5,c5,rfl,hl5,hb5⟩;have ST5:=Ak (HST.out.later hb5);have HL5:=Ak (fresh_away HST.out (Nat.le_refl _) hl5);clear hl5 hb5;simp only [lvV,Lv.kind,Lv.num,Lv.kids,List.length_nil]))
     | (at_builtin;go_must (obtain ⟨cells,fA,fc,hown,hkids⟩:=ST5.out.kids;refine print_append_cells (w0:=w5) (W:=w5) (w.heap.size+2) rfl (.tmp 18) (.tmp 22) 23 25 _ 3 40 rfl Try.underlying23 infoLv rfl (by decide) (by decide) (.slice none 0 0) 0 cells [.int .i64 1,.int .i64 c,.slice A5 0 c5] rfl rfl rfl (by simp [Value.oneCell']) hown (Below.refl _ _) ST5.out.base (by decide) ?_;intro v6 w6 ho6 _ hg6 hat6;have ST6:=Ak (pk_push ST5.out hown hkids HL5.out ho6 hg6 hat6);obtain ⟨A6,L6,c6,rfl,-⟩:=own_slice' ho6;clear hown hkids ho6 hg6 hat6)))
    go_meet
    case rel=>exact ⟨by rw [HP0.out];exact ST6.out⟩
   | false =>
    go_wp2
    go_meet
    case rel=>exact ⟨by rw [HP0.out];exact HST.out⟩
  case rest =>
   clear HST HP0 d0 d1
   obtain ⟨HST⟩:=hcut
   have HST:=Ak HST
   obtain ⟨d0,d1,-,-⟩:=row2 HST.out.x1
   go_upto_block 0 with (fail)
   go_cut [3] (fun v wr=>Aside0 (PK w wr c (.slice A n cap) v (partsN (c,ks))))
   case first =>
    go_wp2
    go_loopw [27,3] (fun i v wr=>∃ (j:Nat),i=.int .i64 j∧j≤n∧Aside0 (PK w wr c (.slice A n cap) v (partsK (c,ks) j))) (fun i _ _=>n - (intOf i).toNat)
    case atStart=>exact ⟨0,rfl,Nat.zero_le _,HST⟩
    case round =>
     clear HST d0 d1
     obtain ⟨j,rfl,hj,HST⟩:=hrel
     by_cases hlt:j<n
     ·obtain ⟨ad,rfl,hcx⟩:=(HR.out.below HST.out.bel).at_ j (by omega) (by omega)
      rw [Int.toNat_natCast] at hcx
      obtain ⟨y,hy⟩:∃ y,y=rd ks j:=⟨_,rfl⟩
      rw [← hy] at hcx
      have hyr:-1≤y∧y≤1099511627776:=by
       have:=atP_ok HOK.out.2.2.1 j
       rw [atP_lt (by rw [HN.out];exact hlt),← hy] at this
       exact this
      have HPK:=Ak (show partsK (c,ks) (j+1)=partsK (c,ks) j ++ (if 0≤y then [varL y j] else []) by rw [partsK,hy])
      have hpl:=parts_len (c,ks) j
      clear hy
      by_cases hy0:0≤y
      ·have HPK':=Ak (HPK.out.trans (by rw [if_pos hy0]))
       obtain ⟨xs,hxs⟩:∃ xs,xs=partsK (c,ks) j:=⟨_,rfl⟩
       rw [← hxs] at HST HPK' hpl
       clear hxs HPK
       obtain ⟨cl0,fA0,fc0,hown0,-⟩:=HST.out.kids
       obtain ⟨A0,L0,cp0,rfl,-⟩:=own_slice' hown0
       clear hown0
       go_wp2_with (first
        | (go_at_call 129;go_must (refine (var_calls (fun _=>False) j _).mono ?_;rintro e w4 ⟨A4,c4,rfl,hl4,hb4⟩;have ST4:=Ak (HST.out.later hb4);have HL4:=Ak hl4;clear hl4 hb4;simp only [lvV]))
        | (go_at_call 101;go_must (refine (plus_calls (fun _=>False) y A4 c4 (.mk 2 j []) w4 (leafS HL4.out) (by omega) (by simp only [Lv.num];omega)).mono ?_;obtain ⟨x,hx⟩:∃ x,x=varL y j:=⟨_,rfl⟩;rw [show plP y (.mk 2 j [])=x from hx.symm];rw [← hx] at HPK';rintro e w5 ⟨A5,c5,rfl,hl5,hb5⟩;have ST5:=Ak (ST4.out.later hb5);have HL5:=Ak (fresh_away ST4.out (Nat.le_refl _) hl5);clear hl5 hb5 hx;simp only [lvV]))
        | (at_builtin;go_must (obtain ⟨cells,fA,fc,hown,hkids⟩:=ST5.out.kids;refine print_append_cells (w0:=w5) (W:=w5) (w.heap.size+2) rfl (.tmp 34) (.tmp 39) 23 25 _ 3 40 rfl Try.underlying23 infoLv rfl (by decide) (by decide) (.slice A0 L0 cp0) xs.length cells [.int .i64 x.kind,.int .i64 x.num,.slice A5 x.kids.length c5] rfl rfl rfl (by simp [Value.oneCell']) hown (Below.refl _ _) ST5.out.base (by omega) ?_;intro v6 w6 ho6 _ hg6 hat6;have ST6:=Ak (pk_push ST5.out hown hkids HL5.out ho6 hg6 hat6);obtain ⟨A6,L6,c6,rfl,-⟩:=own_slice' ho6;clear hown hkids ho6 hg6 hat6)))
       go_roundw
       case rel=>exact ⟨j+1,by go_num,by omega,⟨by rw [HPK'.out];exact ST6.out⟩⟩
       case measure=>(simp [intOf];try omega)
      ·have HPK':=Ak (HPK.out.trans (by rw [if_neg hy0,List.append_nil]))
       clear HPK
       go_wp2
       go_roundw
       case rel=>exact ⟨j+1,by go_num,by omega,⟨by rw [HPK'.out];exact HST.out⟩⟩
       case measure=>(simp [intOf];try omega)
     ·obtain rfl:j=n:=by omega
      have hlt':decide ((j:Int)<j)=false:=by simp
      go_wp2
      go_meet
      case rel =>
       refine ⟨?_⟩
       unfold partsN
       rw [show ((c,ks):Nf).2.length=j from HN.out]
       exact HST.out
   case rest =>
    clear HST d0 d1
    obtain ⟨HST⟩:=hcut
    cases hp:partsN (c,ks) with
    | nil=>exact absurd hp HNE.out
    | cons x r =>
     have HE:=Ak (show lvlN (c,ks)=foldM x r by unfold lvlN;rw [hp])
     rw [hp] at HST
     have HST:=Ak HST
     clear hp
     obtain ⟨A9,c9,rfl,hlv⟩:=HST.out.kids.level
     have HLV:=Ak (hlv 0 0)
     have hcap:=HLV.out.len
     simp only [Lv.kids,List.length_cons] at hcap
     obtain ⟨A',c',hcs,hx0⟩:=HLV.out.kid 0 x rfl
     obtain ⟨gb,off,rfl,hgb⟩:=kid_ptr hcs
     obtain ⟨g0,g1,g2⟩:=lit_kid hcs
     simp only [Nat.zero_mul,Nat.add_zero] at g0 g1 g2
     have HX0:=Ak hx0
     have hgl:gb<wc.heap.size:=World.block_lt_of_cell? wc _ g0
     have hbase:=HST.out.base
     obtain ⟨N,hN⟩:∃ N,N=r.length:=⟨_,rfl⟩
     have hlen2:(x :: r).length=N+1:=by rw [hN];rfl
     rw [hlen2]
     rw [← hN] at hcap
     have HNR:=Ak hN
     clear hcs hx0 hlv hlen2 hN
     go_upto_block 2 with (fail)
     obtain ⟨P9,hP9⟩:∃ P9:Option Addr,P9=(if c9=1 then some ⟨gb,off,none⟩ else some ⟨gb,off+3,none⟩):=⟨_,rfl⟩
     rw [← hP9]
     have HP9:=Ak hP9
     have hout:OutB (w.heap.size+2) wc (wc.alloc (.cells #[.int .i64 x.kind,.int .i64 x.num,.slice A' x.kids.length c'] 25 (0,0))) (foldM x (r.take 0)) A' c':=by
      have hb:Below wc.heap.size wc (wc.alloc (.cells #[.int .i64 x.kind,.int .i64 x.num,.slice A' x.kids.length c'] 25 (0,0))):=below_alloc (Below.refl _ _) _
      exact ⟨blk_new _ _,((HX0.out.mono (S':=fun b=>w.heap.size+2≤b∧b≠wc.heap.size) fun b hb hz=>⟨hb,by omega⟩).later hb),hb⟩
     have HOUT:=Ak hout
     clear hP9 hout g0 g1 g2
     go_wp2
     go_loopw [48] (fun i wr=>∃ (j:Nat) (A6:Option Addr) (c6:Nat),i=.int .i64 j∧j≤N∧Aside0 (OutB (w.heap.size+2) wc wr (foldM x (r.take j)) A6 c6)) (fun i _=>N - (intOf i).toNat)
     case atStart=>exact ⟨0,A',c',rfl,Nat.zero_le _,HOUT⟩
     case round =>
      clear HOUT
      obtain ⟨j,A6,c6,rfl,hj,HOUT⟩:=hrel
      obtain ⟨d0,d1,d2,e0,e1,e2⟩:=row3 HOUT.out.box
      obtain ⟨o,ho⟩:∃ o,o=foldM x (r.take j):=⟨_,rfl⟩
      rw [← ho] at HOUT d0 d1 d2
      have HO:=Ak ho
      clear ho
      by_cases hlt:j<N
      ·obtain rfl:P9=some ⟨gb,off+3,none⟩:=by rw [HP9.out,if_neg (by omega)]
       have hlr:j<r.length:=by rw [← HNR.out];exact hlt
       obtain ⟨q,hq⟩:∃ q,r[j]?=some q:=⟨_,List.getElem?_eq_getElem hlr⟩
       obtain ⟨A7,c7,hcs,hqin⟩:=HLV.out.kid (j+1) q (by simpa [Lv.kids] using hq)
       obtain ⟨g0,g1,g2⟩:=lit_kid (hcs.same (w':=wr) fun k _ hk=>HOUT.out.bel.block k hk)
       rw [show off+(j+1) * 3=off+3+j * 3 by omega] at g0 g1 g2
       have HQ:=Ak hqin
       have HFS:=Ak (show foldM x (r.take (j+1))=.mk 4 0 [o,q] by rw [List.take_add_one,hq];show foldM x (r.take j ++ [q])=_;rw [foldM_snoc,HO.out])
       have hpz:=blk_lt HOUT.out.box
       clear hcs hqin hq
       go_wp2
       exact ⟨⟨j+1,_,_,by go_num,by omega,⟨by rw [HFS.out];exact outb_next HOUT.out hbase HQ.out⟩⟩,by simp [intOf];omega⟩
      ·obtain rfl:j=N:=by omega
       have hlt':decide ((j:Int)<j)=false:=by simp
       have HX2:=Ak (blk_below HST.out.x2 HOUT.out.bel)
       obtain ⟨z0,z1,z2,y0,y1,y2⟩:=row3 HX2.out
       have HF:=Ak (show lvlN (c,ks)=o by rw [HE.out,HO.out,List.take_of_length_le (by rw [← HNR.out];exact Nat.le_refl _)])
       go_wp2
       refine bodyPost_ret (results_c rfl _ _ (w.heap.size+1) 25 #[.int .i64 o.kind,.int .i64 o.num,.slice A6 o.kids.length c6] (0,0) _ rfl (set3 HX2.out) Try.underlying25 rfl (by kernel_rfl)) rfl ?_
       have hch:=chg_set3 wr (w.heap.size+1) (.int .i64 o.kind) (.int .i64 o.num) (.slice A6 o.kids.length c6)
       have hbw:=below_then HST.out.bel HST.out.bel.size HOUT.out.bel
       rw [HF.out]
       exact ⟨A6,c6,rfl,(HOUT.out.lv.same fun b hb hz=>hch.block b hz (by omega)).mono fun b hb _=>.inr (by omega),Chg.trans_below hbw hch (fun _ e=>by omega) hbw.size⟩
end Go.Proofs.Ytdboloabpjmgaaa

namespace Go.RegionEYtdboloabpjmgaaa
open Go.RowKit Go.RegionInvYtdboloabpjmgaaa Go.Proofs.YtdboloabpjmgaaaW.PrintWords
section
variable {P:Program} {ops:Array Oper} {Q:Exit→Act→World→Prop} {R:Nat→Prop} {a:Act} {w:World} {o:Oper}
theorem obE_callV {f:FuncId} {fn:Func} {xs:Array Operand} {ts:Array TypeId} {v:Value} (args:Array Value) (hf:P.funcs[f]?=some fn) (hname:(fn.name == "runtime.NumGoroutine")=false) (hb:fn.body.isSome=true)
  (ho:o.op=.call { callee:=.value (.func f),args:=xs,argTypes:=ts }) (hargs:xs.toList.map a.eval=args.toList) (hw:Region.wanted o (yielded ops a.tmps)=true)
  (hc:Calls P f args w fun e w'=>e=.returned v∧Below w.heap.size w w'):OwesE P ops Q R (fun u _ _=>u=v) o a w:=by
 refine obE_call args hf hname hb ho hargs hw (hc.mono ?_)
 rintro e w' ⟨rfl,hB⟩
 exact ⟨_,fun _=>False,rfl,rfl,Chg.of_below hB,fun k h=>h.elim⟩
end
end Go.RegionEYtdboloabpjmgaaa

namespace Go.Proofs.Ytdboloabpjmgaaa
open Go.RowKit Go.Proofs.YtdboloabpjmgaaaW.PrintWords Go.RegionInvYtdboloabpjmgaaa Go.RegionEYtdboloabpjmgaaa

mutual
def simB:Lv→Lv→Bool
 | .mk k n ks,l=>decide (k=l.kind) && (decide (k=4) || decide (n=l.num)) && decide (ks.length=l.kids.length) && simKs ks l.kids
def simKs:List Lv→List Lv→Bool
 | [],_=>true
 | x :: r,ys=>match ys with
  | []=>true
  | y :: s=>simB x y && simKs r s
end
theorem sim_mk (k n:Int) (ks:List Lv) (l:Lv):simB (.mk k n ks) l=(decide (k=l.kind) && (decide (k=4) || decide (n=l.num)) && decide (ks.length=l.kids.length) && simKs ks l.kids):=by rw [simB]
theorem simKs_nil (ys:List Lv):simKs [] ys=true:=by rw [simKs]
theorem simKs_cons (x y:Lv) (r s:List Lv):simKs (x :: r) (y :: s)=(simB x y && simKs r s):=by rw [simKs]
theorem sim_ok {k n:Int} {ks:List Lv} {l:Lv} (h:k=l.kind∧(k=4∨n=l.num)∧ks.length=l.kids.length):simB (.mk k n ks) l=simKs ks l.kids:=by
 rw [sim_mk]
 simp only [h.1,h.2.2,decide_true,Bool.true_and,Bool.and_true]
 rcases h.2.1 with h' | h'
 ·rw [← h.1,h'];simp
 ·rw [h'];simp
theorem simKs_all:∀ {ks ys:List Lv},ks.length=ys.length→(∀ (i:Nat) (x y:Lv),ks[i]?=some x→ys[i]?=some y→simB x y=true)→simKs ks ys=true
 | [],_,_,_=>simKs_nil _
 | a :: r,[],h,_=>by simp at h
 | a :: r,b :: s,h,hall=>by
  rw [simKs_cons,hall 0 a b rfl rfl,simKs_all (by simpa using h) fun i x y h1 h2=>hall (i+1) x y (by simpa using h1) (by simpa using h2)];rfl
end Go.Proofs.Ytdboloabpjmgaaa

namespace Go.Proofs.Ytdboloabpjmgaaa
open Go.RowKit Go.Proofs.YtdboloabpjmgaaaW.PrintWords Go.RegionInvYtdboloabpjmgaaa Go.RegionEYtdboloabpjmgaaa

theorem own_var {i:Nat} (hi:i≤1000):owP (.mk 2 i [])=.mk 2 i []:=by rw [own_eq (var_sound hi),cpP,cpKs,if_neg (by decide)]
theorem short_len_le' {l:Lv} (h:soundB l=true):(shortN (sumP l)).2.length≤1001:=Nat.le_trans (short_len_le _) (len_le (good_of_sound h))
end Go.Proofs.Ytdboloabpjmgaaa

namespace Go.Proofs.Ytdboloabpjmgaaa
open Go.RowKit Go.Proofs.YtdboloabpjmgaaaW.PrintWords Go.RegionInvYtdboloabpjmgaaa Go.RegionEYtdboloabpjmgaaa

theorem val_ge {vs:List Int} {f:Nf} (h0:NfOk f):leastN f≤valN vs f:=by
 have h:=(valN_le (vs:=vs) (f:=f) (b:=valN vs f)).1 (Int.le_refl _)
 refine least_le h.1 fun j=>?_
 by_cases h1:0≤atP f.2 j
 ·have h2:=h.2 j h1
  have h3:=vAt_in vs j
  have h4:=(atP_ok h0.2.2.1 j).2
  omega
 ·have:=h.1;have:=h0.1;omega
theorem val_mono {vs:List Int} {f g:Nf} (hg:NfOk g) (h:leqR f g):valN vs f≤valN vs g:=by
 have h1:=(valN_le (vs:=vs) (f:=g) (b:=valN vs g)).1 (Int.le_refl _)
 refine valN_le.2 ⟨Int.le_trans h.2 (val_ge hg),fun i hi=>?_⟩
 have h2:=h.1 i
 have h3:=h1.2 i (by omega)
 omega
theorem val_eqR {vs:List Int} {f g:Nf} (hf:NfOk f) (hg:NfOk g) (h:eqR f g):valN vs f=valN vs g:=by
 have:=(eqR_leqR hf hg).1 h
 exact Int.le_antisymm (val_mono hg this.1) (val_mono hf this.2)
def greatL (n:Nat) (i:Int):List Int:=if i<0 then List.replicate n 0 else (List.replicate n 0).set i.toNat 34359738368
theorem great_len (n:Nat) (i:Int):(greatL n i).length=n:=by unfold greatL;split <;> simp
theorem great_at (n:Nat) (i:Int) (j:Nat):vAt (greatL n i) j=if (j:Int)=i∧j<n then 34359738368 else 0:=by
 unfold vAt
 rw [great_len]
 by_cases hj:j<n
 ·rw [if_pos hj,rd_nat']
  unfold greatL
  by_cases hi:i<0
  ·rw [if_pos hi,if_neg (by omega),List.getD_eq_getElem?_getD,List.getElem?_replicate,if_pos hj];decide
  ·rw [if_neg hi,List.getD_eq_getElem?_getD,List.getElem?_set]
   by_cases he:i.toNat=j
   ·rw [if_pos he,if_pos (by simpa using (by omega:i.toNat<n)),if_pos ⟨by omega,hj⟩];decide
   ·rw [if_neg he,if_neg (by omega),List.getElem?_replicate,if_pos hj];decide
 ·rw [if_neg hj,if_neg (by omega)]
end Go.Proofs.Ytdboloabpjmgaaa

namespace Go.Proofs.Ytdboloabpjmgaaa
open Go.RowKit Go.Proofs.YtdboloabpjmgaaaW.PrintWords Go.RegionInvYtdboloabpjmgaaa Go.RegionEYtdboloabpjmgaaa

def lvAt (vs:List Lv) (n:Int):Lv:=vs.getD n.toNat (.mk 0 0 [])
def insvF (vs:List Lv) (k n:Int) (fs:List Nf):Int × List Nf:=
 if k=2∧n<vs.length then (if soundB (lvAt vs n)=true then (0,fs.set n.toNat (sumP (lvAt vs n))) else (1,fs)) else (0,fs)
mutual
def instP (vs:List Lv):Lv→List Nf→Int × List Nf
 | .mk k n ks,fs=>if (insvF vs k n fs).1≠0 then insvF vs k n fs else instKs vs ks (insvF vs k n fs).2
def instKs (vs:List Lv):List Lv→List Nf→Int × List Nf
 | [],fs=>(0,fs)
 | x :: r,fs=>if (instP vs x fs).1≠0 then instP vs x fs else instKs vs r (instP vs x fs).2
end
theorem instP_stop {vs:List Lv} {k n:Int} {ks:List Lv} {fs:List Nf} (h:(insvF vs k n fs).1≠0):instP vs (.mk k n ks) fs=insvF vs k n fs:=by rw [instP,if_pos h]
theorem instP_go {vs:List Lv} {k n:Int} {ks:List Lv} {fs:List Nf} (h:(insvF vs k n fs).1=0):instP vs (.mk k n ks) fs=instKs vs ks (insvF vs k n fs).2:=by rw [instP,if_neg (by simpa using h)]
theorem instKs_stop {vs:List Lv} {x:Lv} {r:List Lv} {fs:List Nf} (h:(instP vs x fs).1≠0):instKs vs (x :: r) fs=instP vs x fs:=by rw [instKs,if_pos h]
theorem instKs_go {vs:List Lv} {x:Lv} {r:List Lv} {fs:List Nf} (h:(instP vs x fs).1=0):instKs vs (x :: r) fs=instKs vs r (instP vs x fs).2:=by rw [instKs,if_neg (by simpa using h)]
theorem instKs_nil (vs:List Lv) (fs:List Nf):instKs vs [] fs=(0,fs):=by rw [instKs]
theorem insvF_len (vs:List Lv) (k n:Int) (fs:List Nf):(insvF vs k n fs).2.length=fs.length:=by
 unfold insvF;split
 ·split <;> simp
 ·rfl
mutual
theorem inst_len (vs:List Lv):(l:Lv)→(fs:List Nf)→(instP vs l fs).2.length=fs.length
 | .mk k n ks,fs=>by
  rw [instP];split
  ·exact insvF_len _ _ _ _
  ·rw [insts_len vs ks,insvF_len]
theorem insts_len (vs:List Lv):(ks:List Lv)→(fs:List Nf)→(instKs vs ks fs).2.length=fs.length
 | [],fs=>by rw [instKs]
 | x :: r,fs=>by
  rw [instKs];split
  ·exact inst_len vs x fs
  ·rw [insts_len vs r,inst_len vs x]
end
def Kept (vs:List Lv) (fs fs':List Nf):Prop:=fs'.length=fs.length∧∀ i:Nat,i<vs.length→fs[i]?=some (sumP (lvAt vs i))→fs'[i]?=some (sumP (lvAt vs i))
theorem Kept.trans {vs:List Lv} {a b c:List Nf} (h1:Kept vs a b) (h2:Kept vs b c):Kept vs a c:=⟨h2.1.trans h1.1,fun i hi h=>h2.2 i hi (h1.2 i hi h)⟩
theorem insvF_kept (vs:List Lv) (k n:Int) (fs:List Nf):Kept vs fs (insvF vs k n fs).2:=by
 refine ⟨insvF_len _ _ _ _,fun i hi h=>?_⟩
 unfold insvF
 split
 ·split
  ·rw [List.getElem?_set]
   split
   ·rename_i h1 h2 h3
    have hlt:=(List.getElem?_eq_some_iff.1 h).1
    rw [h3,if_pos hlt]
    have:lvAt vs n=lvAt vs i:=by unfold lvAt;rw [h3,Int.toNat_natCast]
    rw [this]
   ·exact h
  ·exact h
 ·exact h
mutual
theorem inst_kept (vs:List Lv):(l:Lv)→(fs:List Nf)→Kept vs fs (instP vs l fs).2
 | .mk k n ks,fs=>by
  rw [instP];split
  ·exact insvF_kept _ _ _ _
  ·exact (insvF_kept vs k n fs).trans (insts_kept vs ks _)
theorem insts_kept (vs:List Lv):(ks:List Lv)→(fs:List Nf)→Kept vs fs (instKs vs ks fs).2
 | [],fs=>by rw [instKs];exact ⟨rfl,fun _ _ h=>h⟩
 | x :: r,fs=>by
  rw [instKs];split
  ·exact inst_kept vs x fs
  ·exact (inst_kept vs x fs).trans (insts_kept vs r _)
end
theorem inst_sum {vs:List Lv}:∀ {l:Lv},Good l→∀ (fs fs':List Nf),fs.length=vs.length→(instP vs l fs).1=0→Kept vs (instP vs l fs).2 fs'→ofP fs' l=ofP (vs.map sumP) l:=by
 intro l h
 induction h with
 | @mk k n ks h hk ih =>
  intro fs fs' hl h0 hkp
  by_cases hF:(insvF vs k n fs).1=0
  ·rw [instP_go hF] at h0 hkp
   have hl2:(insvF vs k n fs).2.length=vs.length:=by rw [insvF_len,hl]
   rcases good_cases (.mk h hk) with ⟨rfl,rfl,h1,h2⟩ | ⟨rfl,rfl,h1,h2⟩ | ⟨rfl,x,rfl,h1,h2,-⟩ | ⟨rfl,x,y,rfl,-,-⟩
   ·rw [ofP_num,ofP_num]
   ·rw [ofP_var,ofP_var]
    rw [instKs_nil] at hkp
    have hlen:fs'.length=vs.length:=by rw [hkp.1,hl2]
    unfold varN
    rw [hlen,List.length_map]
    split
    ·rename_i hlt
     have hn:n.toNat<vs.length:=by omega
     have hset:(insvF vs 2 n fs).2[n.toNat]?=some (sumP (lvAt vs (n.toNat:Nat))):=by
      unfold insvF at hF ⊢
      rw [if_pos ⟨rfl,hlt⟩] at hF ⊢
      by_cases hs:soundB (lvAt vs n)=true
      ·rw [if_pos hs]
       simp only [List.getElem?_set]
       rw [if_pos trivial,if_pos (by omega)]
       have:lvAt vs n=lvAt vs (n.toNat:Nat):=by unfold lvAt;rw [Int.toNat_natCast]
       rw [this]
      ·rw [if_neg hs] at hF;exact absurd (show (1:Int)=0 from hF) (by decide)
     have:=hkp.2 n.toNat hn hset
     rw [List.getD_eq_getElem?_getD,this,List.getD_eq_getElem?_getD,List.getElem?_map,List.getElem?_eq_getElem hn]
     simp only [Option.map_some,Option.getD_some,lvAt,Int.toNat_natCast]
     rw [List.getD_eq_getElem?_getD,List.getElem?_eq_getElem hn];rfl
    ·rfl
   ·rw [ofP_succ,ofP_succ]
    rw [instKs] at h0 hkp
    by_cases hx:(instP vs x (insvF vs 3 n fs).2).1=0
    ·rw [if_neg (by simpa using hx),instKs_nil] at h0 hkp
     rw [ih x (by simp) _ fs' hl2 hx hkp]
    ·rw [if_pos hx] at h0;exact absurd h0 hx
   ·rw [ofP_max,ofP_max]
    rw [instKs] at h0 hkp
    by_cases hx:(instP vs x (insvF vs 4 n fs).2).1=0
    ·rw [if_neg (by simpa using hx),instKs] at h0 hkp
     have hl3:(instP vs x (insvF vs 4 n fs).2).2.length=vs.length:=by rw [inst_len,hl2]
     by_cases hy:(instP vs y (instP vs x (insvF vs 4 n fs).2).2).1=0
     ·rw [if_neg (by simpa using hy),instKs_nil] at h0 hkp
      rw [ih x (by simp) _ fs' hl2 hx ((inst_kept vs y _).trans hkp),ih y (by simp) _ fs' hl3 hy hkp]
     ·rw [if_pos hy] at h0;exact absurd h0 hy
    ·rw [if_pos hx] at h0;exact absurd h0 hx
  ·rw [instP_stop hF] at h0;exact absurd h0 hF
def instL (vs:List Lv) (l:Lv):Lv:=if soundB l=true∧(instP vs l (List.replicate vs.length (0,[]))).1=0 then lvlN (shortN (ofP (vs.map sumP) l)) else .mk 0 0 []
theorem valN_map {vs:List Lv} {at_:List Int} {inner:List Int} (hs:∀ u∈vs,soundB u=true)
  (hin:∀ i:Nat,vAt inner i=if i<vs.length then valB at_ (lvAt vs i) else vAt at_ i):∀ {l:Lv},Good l→valN at_ (ofP (vs.map sumP) l)=valR inner l:=by
 have hok:∀ f∈vs.map sumP,NfOk f:=fun f hf=>by obtain ⟨u,hu,rfl⟩:=List.mem_map.1 hf;exact sumP_ok (hs u hu)
 intro l h
 induction h with
 | @mk k n ks h hk ih =>
  rcases good_cases (.mk h hk) with ⟨rfl,rfl,h0,h1⟩ | ⟨rfl,rfl,h0,h1⟩ | ⟨rfl,x,rfl,h0,h1,hx⟩ | ⟨rfl,x,y,rfl,-,-⟩
  ·rw [valR_num,ofP_num];rfl
  ·rw [valR_var,hin n.toNat,ofP_var]
   by_cases hlt:n<vs.length
   ·have hn:n.toNat<vs.length:=by omega
    have hu:soundB (lvAt vs (n.toNat:Nat))=true:=by
     unfold lvAt
     rw [Int.toNat_natCast,List.getD_eq_getElem?_getD,List.getElem?_eq_getElem hn]
     exact hs _ (List.getElem_mem _)
    rw [if_pos hn,valB_yes hu]
    unfold varN
    rw [if_pos (by simpa using hlt),List.getD_eq_getElem?_getD,List.getElem?_map,List.getElem?_eq_getElem hn]
    unfold lvAt
    rw [Int.toNat_natCast,List.getD_eq_getElem?_getD,List.getElem?_eq_getElem hn];rfl
   ·rw [if_neg (by omega)]
    have hv:varN (vs.map sumP) n=sumP (.mk 2 n []):=by
     unfold varN
     rw [if_neg (by simpa using hlt)]
     show _=ofP [] _
     rw [ofP_var]
     unfold varN
     rw [if_neg (by simp;omega)]
    rw [hv,valN_sum at_ (.mk h hk),valR_var]
  ·rw [valR_succ,ofP_succ,valN_plus at_ (ofP_ok hok hx) (by omega),ih x (by simp)]
  ·rw [valR_max,ofP_max,valN_or,ih x (by simp),ih y (by simp)]
end Go.Proofs.Ytdboloabpjmgaaa

namespace Go.Proofs.Ytdboloabpjmgaaa
open Go.RowKit Go.Proofs.YtdboloabpjmgaaaW.PrintWords Go.RegionInvYtdboloabpjmgaaa Go.RegionEYtdboloabpjmgaaa

def InAt (w:World) (S:Nat→Prop) (G:Nat) (fs:List Nf):Prop:=
 ∃ cs:Array Value,w.heap[G]?=some (.cells cs 102 (0,0))∧cs.size=fs.length * 2 ∧
  ∀ (i:Nat) (f:Nf),fs[i]?=some f→∃ A' c',cs[i * 2]?=some (.int .i64 f.1)∧cs[i * 2+1]?=some (.slice A' f.2.length c')∧f.2.length≤c'∧IntsS w S A' f.2.length f.2
theorem InAt.same {w w':World} {S:Nat→Prop} {G:Nat} {fs:List Nf} (h:InAt w S G fs) (hG:w'.heap[G]?=w.heap[G]?) (hs:∀ k,S k→k<w.heap.size→w'.heap[k]?=w.heap[k]?):InAt w' S G fs:=by
 obtain ⟨cs,h1,h2,h3⟩:=h
 refine ⟨cs,hG.trans h1,h2,fun i f hf=>?_⟩
 obtain ⟨A',c',e1,e2,e3,e4⟩:=h3 i f hf
 exact ⟨A',c',e1,e2,e3,e4.same hs⟩
theorem InAt.mono {w:World} {S S':Nat→Prop} {G:Nat} {fs:List Nf} (h:InAt w S G fs) (hs:∀ k,S k→k<w.heap.size→S' k):InAt w S' G fs:=by
 obtain ⟨cs,h1,h2,h3⟩:=h
 refine ⟨cs,h1,h2,fun i f hf=>?_⟩
 obtain ⟨A',c',e1,e2,e3,e4⟩:=h3 i f hf
 exact ⟨A',c',e1,e2,e3,e4.mono hs⟩
theorem InAt.nfs {w:World} {S:Nat→Prop} {G:Nat} {fs:List Nf} (h:InAt w S G fs):NfsS w (fun k=>k=G∨S k) (some ⟨G,0,none⟩) fs:=by
 obtain ⟨cs,h1,h2,h3⟩:=h
 intro i f hf
 obtain ⟨A',c',e1,e2,e3,e4⟩:=h3 i f hf
 have hc:∀ (j:Nat) (v:Value),cs[j]?=some v→w.cell? ⟨G,j,none⟩=some v:=fun j v hv=>by rw [cell_of_row _ _ _ _ _ _ h1];exact hv
 exact ⟨G,0,A',c',rfl,.inl rfl,by rw [Nat.zero_add];exact hc _ _ e1,by rw [Nat.zero_add];exact hc _ _ e2,e3,e4.mono fun b hb _=>.inr hb⟩
theorem InAt.lt {w:World} {S:Nat→Prop} {G:Nat} {fs:List Nf} (h:InAt w S G fs):G<w.heap.size:=by
 obtain ⟨cs,h1,-⟩:=h
 exact blk_lt h1
theorem InAt.cells {w:World} {S:Nat→Prop} {G:Nat} {fs:List Nf} (h:InAt w S G fs) {n:Nat} (hn:n<fs.length):∃ x A' m' c',w.cell? ⟨G,n * 2,none⟩=some (.int .i64 x)∧w.cell? ⟨G,n * 2+1,none⟩=some (.slice A' m' c')∧w.frozen? ⟨G,n * 2,none⟩=false∧w.frozen? ⟨G,n * 2+1,none⟩=false:=by
 obtain ⟨cs,h1,h2,h3⟩:=h
 obtain ⟨A',c',e1,e2,e3,e4⟩:=h3 n _ (List.getElem?_eq_getElem hn)
 exact ⟨_,A',_,c',by rw [cell_of_row _ _ _ _ _ _ h1];exact e1,by rw [cell_of_row _ _ _ _ _ _ h1];exact e2,blk_frozen h1 _,blk_frozen h1 _⟩
theorem chg_pair (w:World) (g i j:Nat) (a b:Value):Chg (fun k=>k=g) w ((w.setCell ⟨g,i,none⟩ a).setCell ⟨g,j,none⟩ b):=chg_trans (chg_set _ _ _ _) (chg_set _ _ _ _)
theorem fix_in {w0:World} {G k:Nat} (hk:G<k∧k<w0.heap.size):Fix w0 (est2 10 0 (fun k=>k=G) (fun _=>False)) k:=est2_fix hk.2 (fun h=>by have h:k=G:=h;omega) (fun h=>h)
theorem InAt.put {w:World} {S S':Nat→Prop} {G:Nat} {fs:List Nf} (h:InAt w S G fs) {n:Nat} (hn:n<fs.length) {f:Nf} {A:Option Addr} {m c:Nat} (hm:m=f.2.length) (hc:m≤c) (hf:IntsS w S' A m f.2) (hS:∀ k,S k→S' k) (hG:¬ S' G) :
  InAt ((w.setCell ⟨G,n * 2,none⟩ (.int .i64 f.1)).setCell ⟨G,n * 2+1,none⟩ (.slice A m c)) S' G (fs.set n f):=by
 subst hm
 have hch:=chg_pair w G (n * 2) (n * 2+1) (.int .i64 f.1) (.slice A f.2.length c)
 have hsame:∀ k,S' k→k<w.heap.size→((w.setCell ⟨G,n * 2,none⟩ (.int .i64 f.1)).setCell ⟨G,n * 2+1,none⟩ (.slice A f.2.length c)).heap[k]?=w.heap[k]?:=
  fun k hk hz=>hch.block k hz fun e=>hG (by have e:k=G:=e;rw [← e];exact hk)
 obtain ⟨cs,h1,h2,h3⟩:=h
 refine ⟨_,blk_set (blk_set h1 (n * 2) _) (n * 2+1) _,by simpa using h2,fun i g hg=>?_⟩
 have hi:i<fs.length:=by have:=(List.getElem?_eq_some_iff.1 hg).1;simpa using this
 rw [List.getElem?_set] at hg
 by_cases e:n=i
 ·subst e
  rw [if_pos rfl,if_pos hn] at hg
  obtain rfl:f=g:=by simpa using hg
  refine ⟨A,c,?_,?_,hc,hf.same hsame⟩
  ·rw [Array.getElem?_setIfInBounds,if_neg (by omega),Array.getElem?_setIfInBounds,if_pos rfl,if_pos (by omega)]
  ·rw [Array.getElem?_setIfInBounds,if_pos rfl,if_pos (by simp;omega)]
 ·rw [if_neg e] at hg
  obtain ⟨A',c',e1,e2,e3,e4⟩:=h3 i g hg
  refine ⟨A',c',?_,?_,e3,(e4.mono fun k hk _=>hS k hk).same hsame⟩
  ·rw [Array.getElem?_setIfInBounds,if_neg (by omega),Array.getElem?_setIfInBounds,if_neg (by omega)];exact e1
  ·rw [Array.getElem?_setIfInBounds,if_neg (by omega),Array.getElem?_setIfInBounds,if_neg (by omega)];exact e2
end Go.Proofs.Ytdboloabpjmgaaa

namespace Go.Proofs.Ytdboloabpjmgaaa
open Go.RowKit Go.Proofs.YtdboloabpjmgaaaW.PrintWords Go.RegionInvYtdboloabpjmgaaa Go.RegionEYtdboloabpjmgaaa
set_option linter.unusedVariables false

def in_ops:List Oper:=[
 { dst:=some 24,op:=Go.Op.load 99 (Go.Operand.tmp 3),type:=99,pos:= "level.go:280",after:=#[],guard:=none },
 { dst:=some 25,op:=Go.Op.fieldAddr 25 (Go.Operand.tmp 4) 1,type:=0,pos:= "level.go:280",after:=#[],guard:=none },
 { dst:=some 26,op:=Go.Op.load 3 (Go.Operand.tmp 25),type:=3,pos:= "level.go:280",after:=#[{ on:=1,ground:=Go.Ground.data }],guard:=none },
 { dst:=some 27,op:=Go.Op.load 23 (Go.Operand.tmp 2),type:=23,pos:= "level.go:280",after:=#[],guard:=none },
 { dst:=some 28,op:=Go.Op.fieldAddr 25 (Go.Operand.tmp 4) 1,type:=0,pos:= "level.go:280",after:=#[],guard:=none },
 { dst:=some 29,op:=Go.Op.load 3 (Go.Operand.tmp 28),type:=3,pos:= "level.go:280",after:=#[{ on:=4,ground:=Go.Ground.data }],guard:=none },
 { dst:=some 30,op:=Go.Op.indexAddr 23 (Go.Operand.tmp 27) (Go.Operand.tmp 29),type:=0,pos:= "level.go:280",after:=#[{ on:=3,ground:=Go.Ground.data },{ on:=5,ground:=Go.Ground.data }],guard:=none },
 { dst:=some 31,op:=Go.Op.load 25 (Go.Operand.tmp 30),type:=25,pos:= "level.go:280",after:=#[{ on:=6,ground:=Go.Ground.data }],guard:=none },
 { dst:=some 32,op:=Go.Op.call { callee:=Go.Callee.value (Go.Operand.func 112),args:=#[Go.Operand.tmp 31,Go.Operand.const (Go.Value.slice none 0 0)],argTypes:=#[25,99] },type:=102,pos:= "level.go:280",after:=#[{ on:=7,ground:=Go.Ground.data }],guard:=none },
 { dst:=some 33,op:=Go.Op.indexAddr 99 (Go.Operand.tmp 24) (Go.Operand.tmp 26),type:=0,pos:= "level.go:280",after:=#[{ on:=0,ground:=Go.Ground.data },{ on:=2,ground:=Go.Ground.data },{ on:=0,ground:=Go.Ground.phase },{ on:=1,ground:=Go.Ground.phase },{ on:=2,ground:=Go.Ground.phase },{ on:=3,ground:=Go.Ground.phase },{ on:=4,ground:=Go.Ground.phase },{ on:=5,ground:=Go.Ground.phase },{ on:=6,ground:=Go.Ground.phase },{ on:=7,ground:=Go.Ground.phase },{ on:=8,ground:=Go.Ground.phase }],guard:=none },
 { dst:=none,op:=Go.Op.store 102 (Go.Operand.tmp 33) (Go.Operand.tmp 32),type:=0,pos:= "level.go:280",after:=#[{ on:=9,ground:=Go.Ground.data },{ on:=8,ground:=Go.Ground.data },{ on:=8,ground:=Go.Ground.chain },{ on:=0,ground:=Go.Ground.phase },{ on:=1,ground:=Go.Ground.phase },{ on:=2,ground:=Go.Ground.phase },{ on:=3,ground:=Go.Ground.phase },{ on:=4,ground:=Go.Ground.phase },{ on:=5,ground:=Go.Ground.phase },{ on:=6,ground:=Go.Ground.phase },{ on:=7,ground:=Go.Ground.phase },{ on:=8,ground:=Go.Ground.phase }],guard:=none }]
def in_F (w0:World) (bx gi G p b0 o0 nv cv n m0 c0:Nat) (A0 Ax:Option Addr) (cx:Nat) (x:Lv) (fs:List Nf):Nat→(Nat→Value)→Value→World→(Nat→Prop)→Prop:=fun rix=>match rix with
 | 0=>fun _ v _ _=>v=.slice (some ⟨G,0,none⟩) nv nv
 | 1=>fun _ v _ _=>v=.pointer (some ⟨p,1,none⟩)
 | 2=>fun _ v _ _=>v=.int .i64 n
 | 3=>fun _ v _ _=>v=.slice (some ⟨b0,o0,none⟩) nv cv
 | 4=>fun _ v _ _=>v=.pointer (some ⟨p,1,none⟩)
 | 5=>fun _ v _ _=>v=.int .i64 n
 | 6=>fun _ v _ _=>v=.pointer (some ⟨b0,o0+n * 3,none⟩)
 | 7=>fun _ v _ _=>v=.agg #[.int .i64 x.kind,.int .i64 x.num,.slice Ax x.kids.length cx]
 | 8=>fun τ v w O=>NfV (fun _=>False) (sumP x) v w O
 | 9=>fun _ v _ _=>v=.pointer (some ⟨G,n * 2,none⟩)
 | 10=>fun τ v w O=>InAt w (fun k=>(fun k=>G<k∧k<w0.heap.size) k∨(O k∧¬ k=G)) G (fs.set n (sumP x))∧O G
 | _=>fun _ _ _ _=>True
def in_C:Nat→List Nat:=fun rix=>match rix with
 | 10=>[8]
 | _=>[]
theorem in_nw2:nwB in_ops.toArray 2=true:=by kernel_rfl
theorem in_nw3:nwB in_ops.toArray 3=true:=by kernel_rfl
theorem in_nw4:nwB in_ops.toArray 4=true:=by kernel_rfl
set_option maxRecDepth 100000 in
set_option maxHeartbeats 8000000 in
theorem in_obs (w0:World) (bx gi G p b0 o0 nv cv n m0 c0:Nat) (A0 Ax:Option Addr) (cx:Nat) (x:Lv) (fs:List Nf) (hx2:w0.heap[bx]?=some (.cells #[.slice (some ⟨b0,o0,none⟩) nv cv] 23 (0,0))) (hx3:w0.heap[gi]?=some (.cells #[.slice (some ⟨G,0,none⟩) nv nv] 99 (0,0))) (hx4:w0.heap[p]?=some (.cells #[.int .i64 2,.int .i64 n,.slice A0 m0 c0] 25 (0,0))) (hbG:¬ bx=G) (hgG:¬ gi=G) (hpG:¬ p=G) (hb0:b0<w0.heap.size) (hb0G:¬ b0=G) (hc0:w0.cell? ⟨b0,o0+n * 3,none⟩=some (.int .i64 x.kind)) (hc1:w0.cell? ⟨b0,o0+n * 3+1,none⟩=some (.int .i64 x.num)) (hc2:w0.cell? ⟨b0,o0+n * 3+2,none⟩=some (.slice Ax x.kids.length cx)) (hx:LvS w0 (fun k=>k<w0.heap.size∧¬ k=G) Ax cx x) (hs:soundB x=true) (hin:InAt w0 (fun k=>G<k∧k<w0.heap.size) G fs) (hn:n<nv) (hl:fs.length=nv) (Q:Exit→Act→World→Prop) (a0:Act) (hi2:a0.tmps.getD 2 undef=.pointer (some ⟨bx,0,none⟩)) (hi3:a0.tmps.getD 3 undef=.pointer (some ⟨gi,0,none⟩)) (hi4:a0.tmps.getD 4 undef=.pointer (some ⟨p,0,none⟩)) :
  ObsE Try.prog in_ops.toArray Q (est2 10 0 (fun k=>k=G) (fun _=>False)) in_C (in_F w0 bx gi G p b0 o0 nv cv n m0 c0 A0 Ax cx x fs) a0 w0 in_ops.toArray.toList 0:=by
 have nw2:=in_nw2
 have nw3:=in_nw3
 have nw4:=in_nw4
 refine ⟨?_,?_,?_,?_,?_,?_,?_,?_,?_,?_,?_,trivial⟩
 ·refine ⟨⟨fun τ=>stableE_det _,leans_not⟩,?_⟩
  intro a w O hk
  have e3:a.eval (.tmp 3)=.pointer (some ⟨gi,0,none⟩):=(hk.init 3 (initialB_of_nw nw3)).trans hi3
  have x2:=hk.world.still hx2 (fun ⟨_,h⟩=>h.elim (fun h=>hbG h.2) And.right)
  have x3:=hk.world.still hx3 (fun ⟨_,h⟩=>h.elim (fun h=>hgG h.2) And.right)
  have x4:=hk.world.still hx4 (fun ⟨_,h⟩=>h.elim (fun h=>hpG h.2) And.right)
  obtain ⟨p0,p1,p2,-,-,-⟩:=row3 x4
  have r2:w.cell? ⟨bx,0,none⟩=some (.slice (some ⟨b0,o0,none⟩) nv cv):=by rw [cell_of_row _ _ _ _ _ _ x2];rfl
  have r3:w.cell? ⟨gi,0,none⟩=some (.slice (some ⟨G,0,none⟩) nv nv):=by rw [cell_of_row _ _ _ _ _ _ x3];rfl
  have hcc:∀ j,w.cell? ⟨b0,j,none⟩=w0.cell? ⟨b0,j,none⟩:=fun j=>cell_same (hk.fix _ (est2_fix hb0 (fun h=>hb0G h) (fun h=>h)))
  have q0:=(hcc _).trans hc0
  have q1:=(hcc _).trans hc1
  have q2:=(hcc _).trans hc2
  exact obE_run (wanted_none rfl) (by unfold execOp;simp only [];rw [e3];go_simp) rfl
 ·refine ⟨⟨fun τ=>stableE_det _,leans_not⟩,?_⟩
  intro a w O hk
  have e4:a.eval (.tmp 4)=.pointer (some ⟨p,0,none⟩):=(hk.init 4 (initialB_of_nw nw4)).trans hi4
  exact obE_run (wanted_none rfl) (by unfold execOp;simp only [];rw [e4];go_simp) rfl
 ·refine ⟨⟨fun τ=>stableE_det _,leans_not⟩,?_⟩
  intro a w O hk
  have e25:a.eval (.tmp 25)=.pointer (some ⟨p,1,none⟩):=hk.fact 1 _ 25 rfl rfl rfl rfl
  have x2:=hk.world.still hx2 (fun ⟨_,h⟩=>h.elim (fun h=>hbG h.2) And.right)
  have x3:=hk.world.still hx3 (fun ⟨_,h⟩=>h.elim (fun h=>hgG h.2) And.right)
  have x4:=hk.world.still hx4 (fun ⟨_,h⟩=>h.elim (fun h=>hpG h.2) And.right)
  obtain ⟨p0,p1,p2,-,-,-⟩:=row3 x4
  have r2:w.cell? ⟨bx,0,none⟩=some (.slice (some ⟨b0,o0,none⟩) nv cv):=by rw [cell_of_row _ _ _ _ _ _ x2];rfl
  have r3:w.cell? ⟨gi,0,none⟩=some (.slice (some ⟨G,0,none⟩) nv nv):=by rw [cell_of_row _ _ _ _ _ _ x3];rfl
  have hcc:∀ j,w.cell? ⟨b0,j,none⟩=w0.cell? ⟨b0,j,none⟩:=fun j=>cell_same (hk.fix _ (est2_fix hb0 (fun h=>hb0G h) (fun h=>h)))
  have q0:=(hcc _).trans hc0
  have q1:=(hcc _).trans hc1
  have q2:=(hcc _).trans hc2
  exact obE_run (wanted_none rfl) (by unfold execOp;simp only [];rw [e25];go_simp) rfl
 ·refine ⟨⟨fun τ=>stableE_det _,leans_not⟩,?_⟩
  intro a w O hk
  have e2:a.eval (.tmp 2)=.pointer (some ⟨bx,0,none⟩):=(hk.init 2 (initialB_of_nw nw2)).trans hi2
  have x2:=hk.world.still hx2 (fun ⟨_,h⟩=>h.elim (fun h=>hbG h.2) And.right)
  have x3:=hk.world.still hx3 (fun ⟨_,h⟩=>h.elim (fun h=>hgG h.2) And.right)
  have x4:=hk.world.still hx4 (fun ⟨_,h⟩=>h.elim (fun h=>hpG h.2) And.right)
  obtain ⟨p0,p1,p2,-,-,-⟩:=row3 x4
  have r2:w.cell? ⟨bx,0,none⟩=some (.slice (some ⟨b0,o0,none⟩) nv cv):=by rw [cell_of_row _ _ _ _ _ _ x2];rfl
  have r3:w.cell? ⟨gi,0,none⟩=some (.slice (some ⟨G,0,none⟩) nv nv):=by rw [cell_of_row _ _ _ _ _ _ x3];rfl
  have hcc:∀ j,w.cell? ⟨b0,j,none⟩=w0.cell? ⟨b0,j,none⟩:=fun j=>cell_same (hk.fix _ (est2_fix hb0 (fun h=>hb0G h) (fun h=>h)))
  have q0:=(hcc _).trans hc0
  have q1:=(hcc _).trans hc1
  have q2:=(hcc _).trans hc2
  exact obE_run (wanted_none rfl) (by unfold execOp;simp only [];rw [e2];go_simp) rfl
 ·refine ⟨⟨fun τ=>stableE_det _,leans_not⟩,?_⟩
  intro a w O hk
  have e4:a.eval (.tmp 4)=.pointer (some ⟨p,0,none⟩):=(hk.init 4 (initialB_of_nw nw4)).trans hi4
  exact obE_run (wanted_none rfl) (by unfold execOp;simp only [];rw [e4];go_simp) rfl
 ·refine ⟨⟨fun τ=>stableE_det _,leans_not⟩,?_⟩
  intro a w O hk
  have e28:a.eval (.tmp 28)=.pointer (some ⟨p,1,none⟩):=hk.fact 4 _ 28 rfl rfl rfl rfl
  have x2:=hk.world.still hx2 (fun ⟨_,h⟩=>h.elim (fun h=>hbG h.2) And.right)
  have x3:=hk.world.still hx3 (fun ⟨_,h⟩=>h.elim (fun h=>hgG h.2) And.right)
  have x4:=hk.world.still hx4 (fun ⟨_,h⟩=>h.elim (fun h=>hpG h.2) And.right)
  obtain ⟨p0,p1,p2,-,-,-⟩:=row3 x4
  have r2:w.cell? ⟨bx,0,none⟩=some (.slice (some ⟨b0,o0,none⟩) nv cv):=by rw [cell_of_row _ _ _ _ _ _ x2];rfl
  have r3:w.cell? ⟨gi,0,none⟩=some (.slice (some ⟨G,0,none⟩) nv nv):=by rw [cell_of_row _ _ _ _ _ _ x3];rfl
  have hcc:∀ j,w.cell? ⟨b0,j,none⟩=w0.cell? ⟨b0,j,none⟩:=fun j=>cell_same (hk.fix _ (est2_fix hb0 (fun h=>hb0G h) (fun h=>h)))
  have q0:=(hcc _).trans hc0
  have q1:=(hcc _).trans hc1
  have q2:=(hcc _).trans hc2
  exact obE_run (wanted_none rfl) (by unfold execOp;simp only [];rw [e28];go_simp) rfl
 ·refine ⟨⟨fun τ=>stableE_det _,leans_not⟩,?_⟩
  intro a w O hk
  have e27:a.eval (.tmp 27)=.slice (some ⟨b0,o0,none⟩) nv cv:=hk.fact 3 _ 27 rfl rfl rfl rfl
  have e29:a.eval (.tmp 29)=.int .i64 n:=hk.fact 5 _ 29 rfl rfl rfl rfl
  have x2:=hk.world.still hx2 (fun ⟨_,h⟩=>h.elim (fun h=>hbG h.2) And.right)
  have x3:=hk.world.still hx3 (fun ⟨_,h⟩=>h.elim (fun h=>hgG h.2) And.right)
  have x4:=hk.world.still hx4 (fun ⟨_,h⟩=>h.elim (fun h=>hpG h.2) And.right)
  obtain ⟨p0,p1,p2,-,-,-⟩:=row3 x4
  have r2:w.cell? ⟨bx,0,none⟩=some (.slice (some ⟨b0,o0,none⟩) nv cv):=by rw [cell_of_row _ _ _ _ _ _ x2];rfl
  have r3:w.cell? ⟨gi,0,none⟩=some (.slice (some ⟨G,0,none⟩) nv nv):=by rw [cell_of_row _ _ _ _ _ _ x3];rfl
  have hcc:∀ j,w.cell? ⟨b0,j,none⟩=w0.cell? ⟨b0,j,none⟩:=fun j=>cell_same (hk.fix _ (est2_fix hb0 (fun h=>hb0G h) (fun h=>h)))
  have q0:=(hcc _).trans hc0
  have q1:=(hcc _).trans hc1
  have q2:=(hcc _).trans hc2
  exact obE_run (wanted_none rfl) (by unfold execOp;simp only [];rw [e27,e29];go_simp) rfl
 ·refine ⟨⟨fun τ=>stableE_det _,leans_not⟩,?_⟩
  intro a w O hk
  have e30:a.eval (.tmp 30)=.pointer (some ⟨b0,o0+n * 3,none⟩):=hk.fact 6 _ 30 rfl rfl rfl rfl
  have x2:=hk.world.still hx2 (fun ⟨_,h⟩=>h.elim (fun h=>hbG h.2) And.right)
  have x3:=hk.world.still hx3 (fun ⟨_,h⟩=>h.elim (fun h=>hgG h.2) And.right)
  have x4:=hk.world.still hx4 (fun ⟨_,h⟩=>h.elim (fun h=>hpG h.2) And.right)
  obtain ⟨p0,p1,p2,-,-,-⟩:=row3 x4
  have r2:w.cell? ⟨bx,0,none⟩=some (.slice (some ⟨b0,o0,none⟩) nv cv):=by rw [cell_of_row _ _ _ _ _ _ x2];rfl
  have r3:w.cell? ⟨gi,0,none⟩=some (.slice (some ⟨G,0,none⟩) nv nv):=by rw [cell_of_row _ _ _ _ _ _ x3];rfl
  have hcc:∀ j,w.cell? ⟨b0,j,none⟩=w0.cell? ⟨b0,j,none⟩:=fun j=>cell_same (hk.fix _ (est2_fix hb0 (fun h=>hb0G h) (fun h=>h)))
  have q0:=(hcc _).trans hc0
  have q1:=(hcc _).trans hc1
  have q2:=(hcc _).trans hc2
  exact obE_run (wanted_none rfl) (by unfold execOp;simp only [];rw [e30];go_simp) rfl
 ·refine ⟨⟨fun τ=>stableE_nf (fun k hk'=>hk'.elim),leans_not⟩,?_⟩
  intro a w O hk
  have e31:a.eval (.tmp 31)=.agg #[.int .i64 x.kind,.int .i64 x.num,.slice Ax x.kids.length cx]:=hk.fact 7 _ 31 rfl rfl rfl rfl
  have x2:=hk.world.still hx2 (fun ⟨_,h⟩=>h.elim (fun h=>hbG h.2) And.right)
  have x3:=hk.world.still hx3 (fun ⟨_,h⟩=>h.elim (fun h=>hgG h.2) And.right)
  have x4:=hk.world.still hx4 (fun ⟨_,h⟩=>h.elim (fun h=>hpG h.2) And.right)
  obtain ⟨p0,p1,p2,-,-,-⟩:=row3 x4
  have r2:w.cell? ⟨bx,0,none⟩=some (.slice (some ⟨b0,o0,none⟩) nv cv):=by rw [cell_of_row _ _ _ _ _ _ x2];rfl
  have r3:w.cell? ⟨gi,0,none⟩=some (.slice (some ⟨G,0,none⟩) nv nv):=by rw [cell_of_row _ _ _ _ _ _ x3];rfl
  have hcc:∀ j,w.cell? ⟨b0,j,none⟩=w0.cell? ⟨b0,j,none⟩:=fun j=>cell_same (hk.fix _ (est2_fix hb0 (fun h=>hb0G h) (fun h=>h)))
  have q0:=(hcc _).trans hc0
  have q1:=(hcc _).trans hc1
  have q2:=(hcc _).trans hc2
  have hlx:=(hx.same (fun k hk' _=>hk.fix k ((fun k hk'=>est2_fix hk'.1 (fun h=>hk'.2 h) (fun h=>h)) k hk')))
  refine obE_callNew #[.agg #[.int .i64 x.kind,.int .i64 x.num,.slice Ax x.kids.length cx],.slice none 0 0] rfl rfl rfl rfl (by simp only [List.map_cons,List.map_nil];rw [e31];rfl) (wanted_none rfl) ((of_nil_calls x hs Ax cx w (LvS.all hlx)).mono ?_)
  intro e w' h
  exact NfV.of_got h
 ·refine ⟨⟨fun τ=>stableE_det _,leans_not⟩,?_⟩
  intro a w O hk
  have e24:a.eval (.tmp 24)=.slice (some ⟨G,0,none⟩) nv nv:=hk.fact 0 _ 24 rfl rfl rfl rfl
  have e26:a.eval (.tmp 26)=.int .i64 n:=hk.fact 2 _ 26 rfl rfl rfl rfl
  have x2:=hk.world.still hx2 (fun ⟨_,h⟩=>h.elim (fun h=>hbG h.2) And.right)
  have x3:=hk.world.still hx3 (fun ⟨_,h⟩=>h.elim (fun h=>hgG h.2) And.right)
  have x4:=hk.world.still hx4 (fun ⟨_,h⟩=>h.elim (fun h=>hpG h.2) And.right)
  obtain ⟨p0,p1,p2,-,-,-⟩:=row3 x4
  have r2:w.cell? ⟨bx,0,none⟩=some (.slice (some ⟨b0,o0,none⟩) nv cv):=by rw [cell_of_row _ _ _ _ _ _ x2];rfl
  have r3:w.cell? ⟨gi,0,none⟩=some (.slice (some ⟨G,0,none⟩) nv nv):=by rw [cell_of_row _ _ _ _ _ _ x3];rfl
  have hcc:∀ j,w.cell? ⟨b0,j,none⟩=w0.cell? ⟨b0,j,none⟩:=fun j=>cell_same (hk.fix _ (est2_fix hb0 (fun h=>hb0G h) (fun h=>h)))
  have q0:=(hcc _).trans hc0
  have q1:=(hcc _).trans hc1
  have q2:=(hcc _).trans hc2
  exact obE_run (wanted_none rfl) (by unfold execOp;simp only [];rw [e24,e26];go_simp) rfl
 ·refine ⟨⟨fun τ=>fun v w w' O h hz hk'=>⟨InAt.same h.1 (hk' G h.1.lt (.inr h.2)) (fun k hk2 hz2=>hk' k hz2 (hk2.imp ((fun k hk'=>fix_in hk') k) And.left)),h.2⟩,leans_not⟩,?_⟩
  intro a w O hk
  have e33:a.eval (.tmp 33)=.pointer (some ⟨G,n * 2,none⟩):=hk.fact 9 _ 33 rfl rfl rfl rfl
  have f32:=hk.fact 8 _ 32 rfl rfl rfl rfl
  have g32:=hk.owns 8 rfl rfl
  have x2:=hk.world.still hx2 (fun ⟨_,h⟩=>h.elim (fun h=>hbG h.2) And.right)
  have x3:=hk.world.still hx3 (fun ⟨_,h⟩=>h.elim (fun h=>hgG h.2) And.right)
  have x4:=hk.world.still hx4 (fun ⟨_,h⟩=>h.elim (fun h=>hpG h.2) And.right)
  obtain ⟨p0,p1,p2,-,-,-⟩:=row3 x4
  have r2:w.cell? ⟨bx,0,none⟩=some (.slice (some ⟨b0,o0,none⟩) nv cv):=by rw [cell_of_row _ _ _ _ _ _ x2];rfl
  have r3:w.cell? ⟨gi,0,none⟩=some (.slice (some ⟨G,0,none⟩) nv nv):=by rw [cell_of_row _ _ _ _ _ _ x3];rfl
  have hcc:∀ j,w.cell? ⟨b0,j,none⟩=w0.cell? ⟨b0,j,none⟩:=fun j=>cell_same (hk.fix _ (est2_fix hb0 (fun h=>hb0G h) (fun h=>h)))
  have q0:=(hcc _).trans hc0
  have q1:=(hcc _).trans hc1
  have q2:=(hcc _).trans hc2
  have hin':InAt w (fun k=>(fun k=>G<k∧k<w0.heap.size) k) G fs:=InAt.same hin (hk.est 10 _ rfl (.inl rfl) G (.inl ⟨rfl,rfl⟩)) (fun k hk' hz=>hk.fix k ((fun k hk'=>fix_in hk') k hk'))
  obtain ⟨y,A',m',c',z0,z1,y0,y1⟩:=hin'.cells (n:=n) (by omega)
  obtain ⟨A,m,cap,e32,h1,h2⟩:=f32
  have hm:=h2.1.1
  refine obE_store (w':=(w.setCell ⟨G,n * 2,none⟩ (.int .i64 (sumP x).1)).setCell ⟨G,n * 2+1,none⟩ (.slice A m cap)) (fun k=>k=G∨O 8 k) (wanted_none rfl) (by unfold execOp;simp only [];rw [e33,show a.eval (.tmp 32)=_ from e32];go_simp) ((chg_pair w G _ _ _ _).mono fun k h=>.inr (.inl ⟨rfl,h⟩)) ⟨hin'.put (by omega) hm.symm h1 (h2.mono fun k hk' _=>.inr <| hk'.elim False.elim fun h'=>⟨.inr h',fun e=>hk.away 10 8 _ rfl (.inl rfl) rfl rfl G (.inl ⟨rfl,rfl⟩) (e ▸ h')⟩) (fun k h=>.inl h) (fun h=>h.elim (fun h=>by have:=h.1;omega) fun h=>h.2 rfl),.inl rfl⟩ (fun k h=>.inl ?_)
  exact h.elim (fun h=>.inr (.inl ⟨rfl,h⟩)) fun h=>.inl ⟨8,by simp [in_C],h⟩
set_option maxRecDepth 100000 in
set_option maxHeartbeats 8000000 in
theorem in_region {Q:Exit→Act→World→Prop} {id:Nat} (w0:World) (bx gi G p b0 o0 nv cv n m0 c0:Nat) (A0 Ax:Option Addr) (cx:Nat) (x:Lv) (fs:List Nf) {s0 s1 s5 s6 s7 s8 s9 s10 s11 s12 s13 s14 s15 s16 s17 s18 s19 s20 s21 s22 s23 s24 s25 s26 s27 s28 s29 s30 s31 s32 s33:Value} (hx2:w0.heap[bx]?=some (.cells #[.slice (some ⟨b0,o0,none⟩) nv cv] 23 (0,0))) (hx3:w0.heap[gi]?=some (.cells #[.slice (some ⟨G,0,none⟩) nv nv] 99 (0,0))) (hx4:w0.heap[p]?=some (.cells #[.int .i64 2,.int .i64 n,.slice A0 m0 c0] 25 (0,0))) (hbG:¬ bx=G) (hgG:¬ gi=G) (hpG:¬ p=G) (hb0:b0<w0.heap.size) (hb0G:¬ b0=G) (hc0:w0.cell? ⟨b0,o0+n * 3,none⟩=some (.int .i64 x.kind)) (hc1:w0.cell? ⟨b0,o0+n * 3+1,none⟩=some (.int .i64 x.num)) (hc2:w0.cell? ⟨b0,o0+n * 3+2,none⟩=some (.slice Ax x.kids.length cx)) (hx:LvS w0 (fun k=>k<w0.heap.size∧¬ k=G) Ax cx x) (hs:soundB x=true) (hin:InAt w0 (fun k=>G<k∧k<w0.heap.size) G fs) (hn:n<nv) (hl:fs.length=nv)
  (hend:∀ (w':World) (u32:Value) (v10:Value) (O10:Nat→Prop),Chg (fun k=>(fun k=>k=G) k∨(fun _=>False) k) w0 w'→(InAt w' (fun k=>(fun k=>G<k∧k<w0.heap.size) k∨(O10 k∧¬ k=G)) G (fs.set n (sumP x))∧O10 G)→(∀ k,O10 k→k<w'.heap.size∧¬ Fix w0 (est2 10 0 (fun k=>k=G) (fun _=>False)) k)→Q .normal { tmps:=(s0 :: s1 :: (.pointer (some ⟨bx,0,none⟩)) :: (.pointer (some ⟨gi,0,none⟩)) :: (.pointer (some ⟨p,0,none⟩)) :: s5 :: s6 :: s7 :: s8 :: s9 :: s10 :: s11 :: s12 :: s13 :: s14 :: s15 :: s16 :: s17 :: s18 :: s19 :: s20 :: s21 :: s22 :: s23 :: (.slice (some ⟨G,0,none⟩) nv nv) :: (.pointer (some ⟨p,1,none⟩)) :: (.int .i64 n) :: (.slice (some ⟨b0,o0,none⟩) nv cv) :: (.pointer (some ⟨p,1,none⟩)) :: (.int .i64 n) :: (.pointer (some ⟨b0,o0+n * 3,none⟩)) :: (.agg #[.int .i64 x.kind,.int .i64 x.num,.slice Ax x.kids.length cx]) :: u32 :: (.pointer (some ⟨G,n * 2,none⟩)) :: []:List Value).toArray,defers:=[] } w') :
  (Code.region id in_ops.toArray true).wp Try.prog Q { tmps:=(s0 :: s1 :: (.pointer (some ⟨bx,0,none⟩)) :: (.pointer (some ⟨gi,0,none⟩)) :: (.pointer (some ⟨p,0,none⟩)) :: s5 :: s6 :: s7 :: s8 :: s9 :: s10 :: s11 :: s12 :: s13 :: s14 :: s15 :: s16 :: s17 :: s18 :: s19 :: s20 :: s21 :: s22 :: s23 :: s24 :: s25 :: s26 :: s27 :: s28 :: s29 :: s30 :: s31 :: s32 :: s33 :: []:List Value).toArray,defers:=[] } w0:=by
 refine wp_region_est (by kernel_rfl) (est2 10 0 (fun k=>k=G) (fun _=>False)) in_C (in_F w0 bx gi G p b0 o0 nv cv n m0 c0 A0 Ax cx x fs) (est2_dis (fun k h1 h2=>h2)) (est2_range (fun k h=>by have:=hin.lt;omega) (fun k h=>h.elim)) (by rfl) (by kernel_rfl) (in_obs w0.drew bx gi G p b0 o0 nv cv n m0 c0 A0 Ax cx x fs hx2 hx3 hx4 hbG hgG hpG hb0 hb0G hc0 hc1 hc2 (LvS.later hx (below_drew (Below.refl _ _))) hs (hin.same rfl fun _ _ _=>rfl) hn hl _ _ rfl rfl rfl) ?_
 intro a w' O hd hs hb hf hf2 ha hsame
 have hl:=slots_eq (ops:=in_ops.toArray) [(24,.slice (some ⟨G,0,none⟩) nv nv),(25,.pointer (some ⟨p,1,none⟩)),(26,.int .i64 n),(27,.slice (some ⟨b0,o0,none⟩) nv cv),(28,.pointer (some ⟨p,1,none⟩)),(29,.int .i64 n),(30,.pointer (some ⟨b0,o0+n * 3,none⟩)),(31,.agg #[.int .i64 x.kind,.int .i64 x.num,.slice Ax x.kids.length cx]),(32,a.tmps.getD 32 undef),(33,.pointer (some ⟨G,n * 2,none⟩))] (show a.tmps.size=34 from hs) (fun i h=>hsame i h) ⟨(hf 0 _ 24 rfl rfl (by decide)).1,(hf 1 _ 25 rfl rfl (by decide)).1,(hf 2 _ 26 rfl rfl (by decide)).1,(hf 3 _ 27 rfl rfl (by decide)).1,(hf 4 _ 28 rfl rfl (by decide)).1,(hf 5 _ 29 rfl rfl (by decide)).1,(hf 6 _ 30 rfl rfl (by decide)).1,(hf 7 _ 31 rfl rfl (by decide)).1,rfl,(hf 9 _ 33 rfl rfl (by decide)).1,trivial⟩ (by kernel_rfl)
 obtain ⟨tmps,defers⟩:=a
 obtain rfl:defers=[]:=hd
 have hl':tmps=_:=hl
 rw [hl']
 obtain ⟨⟨v10,hv10⟩,ho10⟩:=hf2 10 _ rfl rfl (by decide)
 have hb':=est2_chg hb
 refine Eq.mp ?_ (hend w' (tmps.getD 32 undef) v10 (O 10) ⟨hb'.os,hb'.tape,hb'.output,hb'.size,hb'.block⟩ hv10 ho10)
 kernel_rfl

end Go.Proofs.Ytdboloabpjmgaaa

namespace Go.Proofs.Ytdboloabpjmgaaa
open Go.RowKit Go.Proofs.YtdboloabpjmgaaaW.PrintWords Go.RegionInvYtdboloabpjmgaaa Go.RegionEYtdboloabpjmgaaa

theorem insvF_no {vs:List Lv} {k n:Int} {fs:List Nf} (h:¬ (k=2∧n<vs.length)):insvF vs k n fs=(0,fs):=if_neg h
theorem insvF_bad {vs:List Lv} {k n:Int} {fs:List Nf} (h:k=2∧n<vs.length) (hs:soundB (lvAt vs n)=false):insvF vs k n fs=(1,fs):=by
 unfold insvF;rw [if_pos h,if_neg (by rw [hs];decide)]
theorem insvF_ok {vs:List Lv} {k n:Int} {fs:List Nf} (h:k=2∧n<vs.length) (hs:soundB (lvAt vs n)=true):insvF vs k n fs=(0,fs.set n.toNat (sumP (lvAt vs n))):=by
 unfold insvF;rw [if_pos h,if_pos hs]
theorem lvAt_get {vs:List Lv} {i:Nat} {x:Lv} (h:vs[i]?=some x):lvAt vs i=x:=by
 unfold lvAt;rw [Int.toNat_natCast,List.getD_eq_getElem?_getD,h];rfl
def InPost (w:World) (G:Nat) (r:Int × List Nf) (e:Ending) (w':World):Prop:=e=.returned (.int .i64 r.1)∧InAt w' (fun k=>G<k) G r.2∧Chg (fun k=>k=G) w w'
structure InK (w:World) (bx gi G:Nat) (Av:Option Addr) (nv cv:Nat) (vs:List Lv):Prop where
 box:w.heap[bx]?=some (.cells #[.slice Av nv cv] 23 (0,0))
 row:w.heap[gi]?=some (.cells #[.slice (some ⟨G,0,none⟩) nv nv] 99 (0,0))
 ne:bx<G
 gi_:gi=G+1
 vs_:LvS w (fun k=>k<bx) Av cv (.mk 0 0 vs)
 len:nv=vs.length
theorem InK.later {w w':World} {bx gi G:Nat} {Av:Option Addr} {nv cv:Nat} {vs:List Lv} (h:InK w bx gi G Av nv cv vs) (hc:Chg (fun k=>k=G) w w'):InK w' bx gi G Av nv cv vs:=
 ⟨(hc.block _ (blk_lt h.box) (by have:=h.ne;omega)).trans h.box,(hc.block _ (blk_lt h.row) (by have:=h.gi_;omega)).trans h.row,h.ne,h.gi_,h.vs_.same fun k hk hz=>hc.block k hz (by have:=h.ne;omega),h.len⟩
theorem inAt_later {w w':World} {G:Nat} {fs:List Nf} (h:InAt w (fun k=>G<k) G fs) (hb:Below w.heap.size w w'):InAt w' (fun k=>G<k) G fs:=
 h.same (hb.block G h.lt) fun k _ hz=>hb.block k hz
theorem in_made {w0 w':World} {G:Nat} {O:Nat→Prop} {fs:List Nf} (h:InAt w' (fun k=>(G<k∧k<w0.heap.size)∨(O k∧¬ k=G)) G fs) (hG:G<w0.heap.size)
  (hO:∀ k,O k→k<w'.heap.size∧¬ Fix w0 (est2 10 0 (fun k=>k=G) (fun _=>False)) k):InAt w' (fun k=>G<k) G fs:=
 h.mono fun k hk _=>hk.elim And.left fun hk=>by
  by_cases hz:k<w0.heap.size
  ·exact absurd (est2_fix hz hk.2 (fun h=>h)) (hO k hk.1).2
  ·show G<k;omega
set_option maxHeartbeats 4000000 in
theorem linst1_calls (vs:List Lv) (Av:Option Addr) (nv cv:Nat) (k n:Int) (A:Option Addr) (m c:Nat) (d:Int) (bx gi G:Nat) (fs:List Nf) (w:World) (hK:InK w bx gi G Av nv cv vs) (hin:InAt w (fun k=>G<k) G fs) (hl:fs.length=nv) (hn0:0≤n∨k≠2) :
  Calls Try.prog 111 #[.agg #[.int .i64 k,.int .i64 n,.slice A m c],.int .i64 d,.pointer (some ⟨bx,0,none⟩),.pointer (some ⟨gi,0,none⟩)] w (InPost w G (insvF vs k n fs)):=by
 obtain ⟨w1,hw1⟩:∃ w1,w1=w.alloc (.cells #[.int .i64 k,.int .i64 n,.slice A m c] 25 (0,0)):=⟨_,rfl⟩
 have hb1:Below w.heap.size w w1:=by rw [hw1];exact below_alloc (Below.refl _ _) _
 have hx1:w1.heap[w.heap.size]?=some (.cells #[.int .i64 k,.int .i64 n,.slice A m c] 25 (0,0)):=by rw [hw1];exact blk_new w _
 have hC1:Chg (fun k=>k=G) w w1:=Chg.of_below hb1
 have hK1:InK w1 bx gi G Av nv cv vs:=hK.later hC1
 have hGz:=hin.lt
 have HIN:=Ak (inAt_later hin hb1)
 have HC:=Ak hC1
 have HK:=Ak hK1
 have HX:=Ak hx1
 have HL:=Ak hl
 have HN:=Ak hK.len
 have hr2:w1.cell? ⟨bx,0,none⟩=some (.slice Av nv cv):=by rw [cell_of_row _ _ _ _ _ _ hK1.box];rfl
 obtain ⟨p0,p1,p2,-,-,-⟩:=row3 hx1
 clear hK1 hx1 hl hK hin hb1 hC1
 go_enter Try.func111,Try.ntmps111
 go_upto_region 1 with (fail)
 rw [← hw1]
 clear hw1
 by_cases hk:k=2
 ·subst hk
  by_cases hn:n<nv
  ·obtain ⟨i,rfl⟩:=Int.eq_ofNat_of_zero_le (hn0.resolve_right fun h=>h rfl)
   have hi:i<nv:=by omega
   obtain ⟨x,hx⟩:∃ x,vs[i]?=some x:=⟨_,List.getElem?_eq_getElem (by rw [← HN.out];exact hi)⟩
   obtain ⟨Ax,cx,hcs,hlx⟩:=HK.out.vs_.kid i x hx
   obtain ⟨⟨b0,o0,sp⟩,rfl,hS,hsp,h1,h2,h3⟩:=hcs
   obtain rfl:sp=none:=hsp
   rw [add_flat] at h1 h2 h3
   have g2:w1.cell? ⟨b0,o0+i * 3+1,none⟩=some (.int .i64 x.num):=h2
   have g3:w1.cell? ⟨b0,o0+i * 3+2,none⟩=some (.slice Ax x.kids.length cx):=h3
   clear h2 h3
   have HX0:=Ak hlx
   have HLV:=Ak (lvAt_get hx)
   have hb0:b0<bx:=hS
   have hnb:decide ((nv:Int)≤(i:Int))=false:=decide_eq_false (by omega)
   clear hx hlx hS hn
   have HCN:=Ak (show (2:Int)=2∧(i:Int)<vs.length from ⟨rfl,by rw [← HN.out];omega⟩)
   cases hs:soundB x with
   | false =>
    have HS:=Ak hs
    have HE:=Ak (insvF_bad (fs:=fs) HCN.out (by rw [HLV.out];exact hs))
    clear hs
    go_wp2_with (go_at_call 109;go_must (refine (sound_calls Ax cx x _ (LvS.all HX0.out)).mono ?_;rintro e w2 ⟨rfl,hb⟩;rw [HS.out];have HIN2:=Ak (inAt_later HIN.out hb);have HC2:=Ak (chg_trans HC.out (Chg.of_below hb));clear hb))
    go_ret
    rw [HE.out]
    exact ⟨rfl,HIN2.out,HC2.out⟩
   | true =>
    have HS:=Ak hs
    have HE:=Ak (show insvF vs 2 (i:Int) fs=(0,fs.set i (sumP x)) by rw [insvF_ok (fs:=fs) HCN.out (by rw [HLV.out];exact hs),HLV.out,Int.toNat_natCast])
    clear hs
    have H1:=Ak h1
    have H2:=Ak g2
    have H3:=Ak g3
    have hb0z:=blk_lt HK.out.box
    go_upto_region 5 with (go_at_call 109;go_must (refine (sound_calls Ax cx x _ (LvS.all HX0.out)).mono ?_;rintro e w2 ⟨rfl,hb⟩;rw [HS.out];have hcc:∀ j,w2.cell? ⟨b0,j,none⟩=w1.cell? ⟨b0,j,none⟩:=fun j=>cell_same (hb.block b0 (by omega));have HIN2:=Ak (inAt_later HIN.out hb);have HC2:=Ak (chg_trans HC.out (Chg.of_below hb));have HK2:=Ak (HK.out.later (Chg.of_below hb));have HX2:=Ak (blk_below HX.out hb);have HX02:=Ak (HX0.out.later hb);have Q1:=Ak ((hcc _).trans H1.out);have Q2:=Ak ((hcc _).trans H2.out);have Q3:=Ak ((hcc _).trans H3.out);have hz2:=hb.size;clear hb hcc))
    have hne:=HK2.out.ne
    have hgi:=HK2.out.gi_
    have hbz:=blk_lt HK2.out.box
    have hz1:=blk_lt HX.out
    refine in_region w2 bx gi G w.heap.size b0 o0 nv cv i m c A Ax cx x fs HK2.out.box HK2.out.row HX2.out (by omega) (by omega) (by omega) (by omega) (by omega) Q1.out Q2.out Q3.out (HX02.out.mono fun k hk hz=>⟨hz,by omega⟩) HS.out (HIN2.out.mono fun k hk hz=>⟨hk,hz⟩) hi HL.out ?_
    rintro w6 u32 v10 O10 hch ⟨hia,-⟩ hO
    have HIN6:=Ak (in_made (w0:=w2) hia (by omega) hO)
    have HC6:=Ak (chg_trans HC2.out (hch.mono fun k h=>h.elim id False.elim))
    clear hia hO hch
    go_wp2
    go_ret
    rw [HE.out]
    exact ⟨rfl,HIN6.out,HC6.out⟩
  ·have HE:=Ak (insvF_no (vs:=vs) (k:=2) (n:=n) (fs:=fs) fun h=>hn (by rw [HN.out];exact h.2))
   have hnb:decide ((nv:Int)≤n)=true:=decide_eq_true (by omega)
   clear hn
   go_wp2
   go_ret
   rw [HE.out]
   exact ⟨rfl,HIN.out,HC.out⟩
 ·have HE:=Ak (insvF_no (vs:=vs) (k:=k) (n:=n) (fs:=fs) fun h=>hk h.1)
  have hkb:(k != 2)=true:=by simp [hk]
  clear hk
  go_wp2
  go_ret
  rw [HE.out]
  exact ⟨rfl,HIN.out,HC.out⟩
end Go.Proofs.Ytdboloabpjmgaaa

namespace Go.Proofs.Ytdboloabpjmgaaa
open Go.RowKit Go.Proofs.YtdboloabpjmgaaaW.PrintWords Go.RegionInvYtdboloabpjmgaaa Go.RegionEYtdboloabpjmgaaa

abbrev instC (bx gi:Nat):Value:=.func (.func 111) #[] #[.pointer (some ⟨bx,0,none⟩),.pointer (some ⟨gi,0,none⟩)]
theorem good_n0 {k n:Int} {ks:List Lv} (h:Good (.mk k n ks)):0≤n∨k≠2:=by
 rcases good_cases h with ⟨rfl,_,h0,_⟩ | ⟨rfl,_,h0,_⟩ | ⟨rfl,_,_,h0,_⟩ | ⟨rfl,_⟩
 ·exact .inl h0
 ·exact .inl h0
 ·exact .inl (by omega)
 ·exact .inr (by decide)
theorem good_kid {k n:Int} {ks:List Lv} {i:Nat} {x:Lv} (h:Good (.mk k n ks)) (hx:ks[i]?=some x):Good x:=by
 cases h with
 | mk _ hk=>exact hk x (List.mem_of_getElem? hx)
theorem inst1_at (vs:List Lv) (Av:Option Addr) (nv cv:Nat) (k n:Int) (ks:List Lv) (A:Option Addr) (m c:Nat) (d:Int) (bx gi G:Nat) (fs:List Nf) (w:World) (hg:Good (.mk k n ks)) (hK:InK w bx gi G Av nv cv vs) (hin:InAt w (fun k=>G<k) G fs) (hl:fs.length=nv) :
  Calls Try.prog 111 #[.agg #[.int .i64 k,.int .i64 n,.slice A m c],.int .i64 d,.pointer (some ⟨bx,0,none⟩),.pointer (some ⟨gi,0,none⟩)] w (InPost w G (insvF vs k n fs)):=
 linst1_calls vs Av nv cv k n A m c d bx gi G fs w hK hin hl (good_n0 hg)
set_option maxHeartbeats 4000000 in
theorem walk_inst (vs:List Lv) (Av:Option Addr) (nv cv bx gi G:Nat) (N:Nat):∀ (l:Lv),SizeOf.sizeOf l<N→Good l→∀ (A:Option Addr) (c:Nat) (d:Int) (fs:List Nf) (w:World),LvIn w bx A c l→InK w bx gi G Av nv cv vs→InAt w (fun k=>G<k) G fs→fs.length=nv →
  Calls Try.prog 110 #[lvV A c l,.int .i64 d,instC bx gi] w (InPost w G (instP vs l fs)):=by
 induction N with
 | zero=>intro l h;omega
 | succ N ih =>
  rintro ⟨lk,ln,ks⟩ hN hgood A c d fs w hin hK hI hl
  have IH:=Ak ih
  have HIN:=Ak hin
  have HK:=Ak hK
  have HI:=Ak hI
  have HL:=Ak hl
  have HGD:=Ak hgood
  have hGz:=hI.lt
  have hbG:=hK.ne
  have hlen:=hin.len
  simp only [Lv.kids] at hlen
  have hl9:ks.length≤9223372036854775807:=by omega
  clear ih hin hK hI hl hgood hlen
  unfold instC lvV
  simp only [Lv.kind,Lv.num,Lv.kids]
  obtain ⟨m,hm⟩:∃ m,m=ks.length:=⟨_,rfl⟩
  rw [← hm] at hl9 ⊢
  have HM:=Ak hm
  clear hm
  go_enter Try.func110,Try.ntmps110
  have hba:∀ o:Obj,Below w.heap.size w (w.alloc o):=fun o=>below_alloc (Below.refl _ _) _
  have HBA:=Ak hba
  clear hba
  obtain ⟨e0,fs0,hes⟩:∃ a b,insvF vs lk ln fs=(a,b):=⟨_,_,rfl⟩
  have HV:=Ak hes
  have HL0:=Ak (show fs0.length=nv by have:=insvF_len vs lk ln fs;rw [hes] at this;exact this.trans HL.out)
  by_cases h1:e0=0
  ·subst h1
   have HE:=Ak (show instP vs (.mk lk ln ks) fs=instKs vs ks fs0 by rw [instP_go (by rw [hes]),hes])
   clear hes
   go_wp2_with (go_at_call 111;go_must (refine (inst1_at vs Av nv cv lk ln ks A m c d bx gi G fs _ HGD.out (HK.out.later (Chg.of_below (HBA.out _))) (inAt_later HI.out (HBA.out _)) HL.out).mono ?_;rintro e w1 ⟨rfl,hg1,hc1⟩;rw [HV.out] at hg1 ⊢;have HI1:=Ak hg1;have hbox:=chg_cell hc1 (box_cell w #[.int .i64 lk,.int .i64 ln,.slice A m c] 25 2 _ rfl) (Nat.ne_of_gt hGz);have HC1:=Ak (chg_trans (chg_alloc _ _ _) hc1);clear hg1 hc1))
   go_loopw [21] (fun i wr=>∃ (k:Nat) (fs':List Nf),i=.int .i64 k∧k≤m∧Aside0 (fs'.length=nv)∧Aside0 (instKs vs (ks.drop k) fs'=instP vs (.mk lk ln ks) fs)∧Aside0 (InAt wr (fun k=>G<k) G fs')∧Aside0 (Chg (fun k=>k=G) w wr)) (fun i _=>m - (intOf i).toNat)
   case atStart=>exact ⟨0,fs0,rfl,Nat.zero_le _,HL0,⟨HE.out.symm⟩,HI1,HC1⟩
   case round =>
    clear HE HV HI1 HC1 hbox
    obtain ⟨k,fs',rfl,hk,HL1,HE,HI1,HC1⟩:=hrel
    have HIN2:=Ak (LvIn.stay HIN.out (chg_below HC1.out (Nat.le_of_lt hbG) (Nat.le_of_lt (Nat.lt_of_lt_of_le (Nat.lt_trans hbG hGz) (Nat.le_refl _)))))
    have HK2:=Ak (HK.out.later HC1.out)
    by_cases hlt:k<m
    ·have hlt2:k<ks.length:=by rw [← HM.out];exact hlt
     obtain ⟨x,hx⟩:∃ x,ks[k]?=some x:=⟨_,List.getElem?_eq_getElem hlt2⟩
     obtain ⟨A',c',hcs,hin⟩:=HIN2.out.kid k x hx
     obtain ⟨ad,rfl,hc1,hc2,hc3⟩:=hcs.facts
     clear hcs
     have HX:=Ak hx
     have HXIN:=Ak hin
     have HXG:=Ak (good_kid HGD.out hx)
     clear hx hin hlt2
     have hG2:=HI1.out.lt
     have HBB:=Ak (show ∀ o:Obj,Below wr.heap.size wr (wr.alloc o) from fun o=>below_alloc (Below.refl _ _) _)
     obtain ⟨e2,fs2,hes⟩:∃ a b,instP vs x fs'=(a,b):=⟨_,_,rfl⟩
     have HV:=Ak hes
     by_cases h2:e2=0
     ·subst h2
      have HKK:=Ak (show instKs vs (ks.drop (k+1)) fs2=instP vs (.mk lk ln ks) fs by rw [← HE.out,drop_kid HX.out,instKs_go (by rw [hes]),hes])
      have HL2:=Ak (show fs2.length=nv by have:=inst_len vs x fs';rw [hes] at this;exact this.trans HL1.out)
      clear hes
      go_wp2_with (go_at_call 110;go_must (refine (IH.out x (Nat.lt_of_lt_of_le (kid_small HX.out) (Nat.le_of_lt_succ hN)) HXG.out A' c' _ fs' _ (LvIn.stay HXIN.out ((Below.refl _ _).alloc (Nat.le_of_lt (Nat.lt_trans hbG hG2)) _)) (HK2.out.later (Chg.of_below (HBB.out _))) (inAt_later HI1.out (HBB.out _)) HL1.out).mono ?_;rintro e w2 ⟨rfl,hg1,hc1⟩;rw [HV.out] at hg1 ⊢;have HI2:=Ak hg1;have HC2:=Ak (chg_trans HC1.out (chg_trans (chg_alloc _ _ _) hc1));clear hg1 hc1))
      go_roundw
      case rel=>exact ⟨k+1,fs2,by go_num,by omega,HL2,HKK,HI2,HC2⟩
      case measure=>(simp [intOf];try omega)
     ·have HKK:=Ak (show (e2,fs2)=instP vs (.mk lk ln ks) fs by rw [← HE.out,drop_kid HX.out,instKs_stop (by rw [hes];exact h2),hes])
      have h2':(e2 != 0)=true:=by simpa using h2
      clear hes h2
      go_wp2_with (go_at_call 110;go_must (refine (IH.out x (Nat.lt_of_lt_of_le (kid_small HX.out) (Nat.le_of_lt_succ hN)) HXG.out A' c' _ fs' _ (LvIn.stay HXIN.out ((Below.refl _ _).alloc (Nat.le_of_lt (Nat.lt_trans hbG hG2)) _)) (HK2.out.later (Chg.of_below (HBB.out _))) (inAt_later HI1.out (HBB.out _)) HL1.out).mono ?_;rintro e w2 ⟨rfl,hg1,hc1⟩;rw [HV.out] at hg1 ⊢;have HI2:=Ak hg1;have HC2:=Ak (chg_trans HC1.out (chg_trans (chg_alloc _ _ _) hc1));clear hg1 hc1))
      go_ret
      rw [← HKK.out]
      exact ⟨rfl,HI2.out,HC2.out⟩
    ·obtain rfl:k=m:=by omega
     have hlt':decide ((k:Int)<k)=false:=by simp
     have HW:=Ak (show instP vs (.mk lk ln ks) fs=(0,fs') by rw [← HE.out,List.drop_of_length_le (by rw [← HM.out];exact Nat.le_refl _),instKs])
     go_wp2
     go_ret
     rw [HW.out]
     exact ⟨rfl,HI1.out,HC1.out⟩
  ·have HE:=Ak (show instP vs (.mk lk ln ks) fs=(e0,fs0) by rw [instP_stop (by rw [hes];exact h1),hes])
   have h1':(e0 != 0)=true:=by simp [h1]
   clear h1 hes
   go_wp2_with (go_at_call 111;go_must (refine (inst1_at vs Av nv cv lk ln ks A m c d bx gi G fs _ HGD.out (HK.out.later (Chg.of_below (HBA.out _))) (inAt_later HI.out (HBA.out _)) HL.out).mono ?_;rintro e w1 ⟨rfl,hg1,hc1⟩;rw [HV.out] at hg1 ⊢;have HI1:=Ak hg1;have HC1:=Ak (chg_trans (chg_alloc _ _ _) hc1);clear hg1 hc1))
   go_ret
   rw [HE.out]
   exact ⟨rfl,HI1.out,HC1.out⟩
end Go.Proofs.Ytdboloabpjmgaaa

namespace Go.Proofs.Ytdboloabpjmgaaa
open Go.RowKit Go.Proofs.YtdboloabpjmgaaaW.PrintWords Go.RegionInvYtdboloabpjmgaaa Go.RegionEYtdboloabpjmgaaa

theorem infoNorm:(Try.prog.info? 102).map (fun i=>(i.zero,i.size,i.bytes))=some (some (.agg #[.int .i64 0,.slice none 0 0]),2,32):=by kernel_rfl
theorem norm_make (m:Nat) (hm:m≤1000):∀ W:World,(Instr.makeSlice 99 (.int .i64 (m:Int)) (.int .i64 (m:Int))).run Try.prog W=.ok (.slice (some ⟨W.heap.size,0,none⟩) m m) (W.alloc (.cells (madeCells #[.int .i64 0,.slice none 0 0] (m * 2)) 102)):=by
 intro W
 obtain ⟨i,hi,he⟩:=Option.map_eq_some_iff.1 infoNorm
 simp only [Prod.mk.injEq] at he
 obtain ⟨h1,h2,h3⟩:=he
 have:=run_make (P:=Try.prog) W 99 102 i _ Try.underlying99 hi h1 .i64 .i64 m m (by omega) (Int.le_refl _) (by rw [h3];omega) (by omega)
 rw [h2] at this
 simpa only [Int.toNat_natCast,show (Value.agg #[.int .i64 0,.slice none 0 0]).cells = #[.int .i64 0,.slice none 0 0] from rfl] using this
theorem in_new (w:World) (S:Nat→Prop) (nv:Nat):InAt (w.alloc (.cells (madeCells #[.int .i64 0,.slice none 0 0] (nv * 2)) 102)) S w.heap.size (List.replicate nv (0,[])):=by
 refine ⟨_,blk_new w _,by simp [size_madeCells],fun i f hf=>?_⟩
 obtain ⟨hi,rfl⟩:=List.getElem?_eq_some_iff.1 hf
 simp only [List.length_replicate] at hi
 simp only [List.getElem_replicate,List.length_nil]
 refine ⟨none,0,?_,?_,Nat.le_refl _,IntsS.nil _ _⟩
 ·rw [Array.getElem?_eq_getElem (by simp [size_madeCells];omega)]
  simp [madeCells]
 ·rw [Array.getElem?_eq_getElem (by simp [size_madeCells];omega)]
  simp [madeCells,Nat.add_mod]
def NfL (f:Nf):Prop:=NfOk f∧f.2.length≤1001
theorem sum_nfl {l:Lv} (h:soundB l=true):NfL (sumP l):=⟨sumP_ok h,len_le (good_of_sound h)⟩
theorem zero_nfl:NfL (0,[]):=⟨⟨(by decide),(by decide),(fun x hx=>by simp at hx),(by simp)⟩,(by simp)⟩
theorem insvF_nfl (vs:List Lv) (k n:Int) {fs:List Nf} (h:∀ f∈fs,NfL f):∀ f∈(insvF vs k n fs).2,NfL f:=by
 unfold insvF
 split
 ·split
  ·rename_i hs
   intro f hf
   rcases List.mem_or_eq_of_mem_set hf with hf | rfl
   ·exact h f hf
   ·exact sum_nfl hs
  ·exact h
 ·exact h
mutual
theorem inst_nfl (vs:List Lv):(l:Lv)→(fs:List Nf)→(∀ f∈fs,NfL f)→∀ f∈(instP vs l fs).2,NfL f
 | .mk k n ks,fs,h=>by
  rw [instP];split
  ·exact insvF_nfl vs k n h
  ·exact insts_nfl vs ks _ (insvF_nfl vs k n h)
theorem insts_nfl (vs:List Lv):(ks:List Lv)→(fs:List Nf)→(∀ f∈fs,NfL f)→∀ f∈(instKs vs ks fs).2,NfL f
 | [],fs,h=>by rw [instKs];exact h
 | x :: r,fs,h=>by
  rw [instKs];split
  ·exact inst_nfl vs x fs h
  ·exact insts_nfl vs r _ (inst_nfl vs x fs h)
end
theorem ofP_len {fs:List Nf} (hfs:∀ f∈fs,NfL f) {l:Lv} (h:Good l):(ofP fs l).2.length≤1001:=by
 induction h with
 | @mk k n ks h hk ih =>
  rcases good_cases (.mk h hk) with ⟨rfl,rfl,h0,h1⟩ | ⟨rfl,rfl,h0,h1⟩ | ⟨rfl,x,rfl,h0,h1,-⟩ | ⟨rfl,x,y,rfl,-,-⟩
  ·rw [ofP_num];simp
  ·rw [ofP_var]
   unfold varN
   split
   ·rw [List.getD_eq_getElem?_getD]
    cases e:fs[n.toNat]? with
    | none=>simp
    | some f=>exact (hfs f (List.mem_of_getElem? e)).2
   ·simp;omega
  ·have:=ih x (by simp)
   rw [ofP_succ]
   simpa [plusN] using this
  ·have hx:=ih x (by simp)
   have hy:=ih y (by simp)
   rw [ofP_max,or_len]
   omega
theorem ofP_nfl {fs:List Nf} (hfs:∀ f∈fs,NfL f) {l:Lv} (h:Good l):NfL (ofP fs l):=⟨ofP_ok (fun f hf=>(hfs f hf).1) h,ofP_len hfs h⟩
theorem of_at (S:Nat→Prop) (Av:Option Addr) (nv cv:Nat) (fs:List Nf) (hl:fs.length=nv) (hfs:∀ f∈fs,NfOk f) (hlen:nv≤9223372036854775807) (l:Lv) (hg:Good l) (A:Option Addr) (c:Nat) (w:World) (hin:LvIn w w.heap.size A c l) (hf:NfsS w S Av fs) (hS:∀ k,S k→k<w.heap.size) :
  Calls Try.prog 112 #[lvV A c l,.slice Av nv cv] w (NfGot w S (ofP fs l)):=by
 subst hl
 exact of_calls S Av cv fs hfs hlen _ l (Nat.lt_succ_self _) hg A c w hin hf hS
theorem zero_got (w w':World) (hb:Below w.heap.size w w'):LvGot w (fun _=>False) (.mk 0 0 []) (.returned (.agg #[.int .i64 0,.int .i64 0,.slice none 0 0])) w':=⟨none,0,rfl,LvS.leaf _ _ _ _,hb⟩
set_option maxHeartbeats 4000000 in
theorem inst_calls (A:Option Addr) (c:Nat) (l:Lv) (Av:Option Addr) (nv cv:Nat) (vs:List Lv) (w:World) (hin:LvIn w w.heap.size A c l) (hv:LvIn w w.heap.size Av cv (.mk 0 0 vs)) (hn:nv=vs.length) (hn50:nv≤1000) :
  Calls Try.prog 88 #[lvV A c l,.slice Av nv cv] w (LvGot w (fun _=>False) (instL vs l)):=by
 have HIN:=Ak hin
 have HV:=Ak hv
 have HN:=Ak hn
 have hl9:l.kids.length≤9223372036854775807:=by have:=hin.len;omega
 have MK:=norm_make nv hn50
 clear hin hv hn
 unfold lvV
 obtain ⟨w0,hw0⟩:∃ w0,w0=((w.alloc (.cells #[.int .i64 l.kind,.int .i64 l.num,.slice A l.kids.length c] 25 (0,0))).alloc (.cells #[.slice Av nv cv] 23 (0,0))).alloc (.cells #[.int .i64 0,.int .i64 0,.slice none 0 0] 25 (0,0)):=⟨_,rfl⟩
 have hb0:Below w.heap.size w w0:=by rw [hw0];exact below_alloc (below_alloc (below_alloc (Below.refl _ _) _) _) _
 have HX0:=Ak (show w0.heap[w.heap.size]?=some (.cells #[.int .i64 l.kind,.int .i64 l.num,.slice A l.kids.length c] 25 (0,0)) by rw [hw0];exact blk_alloc (box0 w _ _) _)
 have HV0:=Ak (show w0.heap[w.heap.size+1]?=some (.cells #[.slice Av nv cv] 23 (0,0)) by rw [hw0];exact blk_alloc (box1 w _ _) _)
 have HY0:=Ak (show w0.heap[w.heap.size+2]?=some (.cells #[.int .i64 0,.int .i64 0,.slice none 0 0] 25 (0,0)) by rw [hw0];simpa using blk_new ((w.alloc _).alloc _) _)
 have HB0:=Ak hb0
 clear hb0
 go_enter Try.func88,Try.ntmps88
 go_upto_region 1 with (fail)
 rw [← hw0]
 clear hw0
 obtain ⟨p0,p1,p2,-,-,-⟩:=row3 HX0.out
 cases hs:soundB l with
 | false =>
  have HS:=Ak hs
  have HE:=Ak (show instL vs l=.mk 0 0 [] by unfold instL;rw [if_neg (by rw [hs];simp)])
  clear hs
  go_upto_region 2 with (first
   | (go_at_call 109;go_must (refine (sound_calls A c l _ (LvS.all (HIN.out.stay HB0.out))).mono ?_;rintro e w1 ⟨rfl,hb⟩;rw [HS.out];have HB1:=Ak (below_then HB0.out HB0.out.size hb);have HY1:=Ak (blk_below HY0.out hb);obtain ⟨z0,z1,z2,q0,q1,q2⟩:=row3 HY1.out;clear hb)))
  go_wp2
  refine bodyPost_ret (results_c rfl _ _ (w.heap.size+1+1) 25 #[.int .i64 0,.int .i64 0,.slice none 0 0] (0,0) _ rfl (set3 HY1.out) Try.underlying25 rfl (by kernel_rfl)) rfl ?_
  rw [HE.out]
  exact zero_got _ _ (Chg.trans_below HB1.out (chg_set3 _ _ _ _ _) (fun _ e=>by omega) HB1.out.size)
 | true =>
  have HS:=Ak hs
  clear hs
  go_upto_region 4 with (first
   | (go_at_call 109;go_must (refine (sound_calls A c l _ (LvS.all (HIN.out.stay HB0.out))).mono ?_;rintro e w1 ⟨rfl,hb⟩;rw [HS.out];have HB1:=Ak (below_then HB0.out HB0.out.size hb);have HX1:=Ak (blk_below HX0.out hb);have HV1:=Ak (blk_below HV0.out hb);have HY1:=Ak (blk_below HY0.out hb);obtain ⟨p0,p1,p2,-,-,-⟩:=row3 HX1.out;have pv:=(show w1.cell? ⟨w.heap.size+1,0,none⟩=some (.slice Av nv cv) by rw [cell_of_row _ _ _ _ _ _ HV1.out];rfl);clear hb)))
  clear p0 p1 p2 pv MK
  obtain ⟨G,hG⟩:∃ G,G=w1.heap.size:=⟨_,rfl⟩
  have hyl:=blk_lt HY1.out
  obtain ⟨w2,hw2⟩:∃ w2,w2=(w1.alloc (.cells (madeCells #[.int .i64 0,.slice none 0 0] (nv * 2)) 102)).alloc (.cells #[.slice (some ⟨w1.heap.size,0,none⟩) nv nv] 99):=⟨_,rfl⟩
  have hb2:Below w1.heap.size w1 w2:=by rw [hw2];exact two_boxes _ _
  have hi2:InAt w2 (fun k=>G<k) G (List.replicate nv (0,[])):=by
   rw [hw2,hG];exact (in_new w1 _ nv).same (by rw [blk_alloc (blk_new w1 _)];exact (blk_new w1 _).symm) fun k _ hk=>(below_alloc (Below.refl _ _) _).block k hk
  have hk2:InK w2 (w.heap.size+1) (G+1) G Av nv cv vs:=⟨blk_below HV1.out hb2,by rw [hw2,hG];exact box1 w1 _ _,by omega,rfl,LvIn.mono ((HV.out.stay HB1.out).stay (hb2.mono (by omega))) (Nat.le_succ _),HN.out⟩
  have HI2:=Ak hi2
  have HK2:=Ak hk2
  have HB2:=Ak (below_then HB1.out HB1.out.size hb2)
  have HX2:=Ak (blk_below HX1.out hb2)
  have HY2:=Ak (blk_below HY1.out hb2)
  rw [← hw2,← hG]
  have HGZ:=Ak (show w.heap.size+3≤G by omega)
  obtain ⟨p0,p1,p2,-,-,-⟩:=row3 HX2.out
  clear hw2 hb2 hi2 hk2 hG hyl
  obtain ⟨e3,fs3,hes⟩:∃ a b,instP vs l (List.replicate nv (0,[]))=(a,b):=⟨_,_,rfl⟩
  have HV3:=Ak hes
  by_cases he:e3=0
  ·subst he
   have HIE:=Ak (show instL vs l=lvlN (shortN (ofP (vs.map sumP) l)) by unfold instL;rw [if_pos ⟨HS.out,by rw [← HN.out,hes]⟩])
   have HL3:=Ak (show fs3.length=nv by have:=inst_len vs l (List.replicate nv (0,[]));rw [hes] at this;simpa using this)
   have HOF:=Ak (show ofP fs3 l=ofP (vs.map sumP) l from inst_sum (good_of_sound HS.out) (List.replicate nv (0,[])) fs3 (by simp [HN.out]) (by rw [hes]) (by rw [hes];exact ⟨rfl,fun _ _ h=>h⟩))
   have HFS:=Ak (show ∀ f∈fs3,NfL f by have:=inst_nfl vs l (List.replicate nv (0,[])) (fun f hf=>by rw [(List.mem_replicate.1 hf).2];exact zero_nfl);rw [hes] at this;exact this)
   clear hes
   go_upto_region 7 with (first
    | (go_at_call 110;go_must (refine (walk_inst vs Av nv cv (w.heap.size+1) (G+1) G _ l (Nat.lt_succ_self _) (good_of_sound HS.out) A c 1 _ _ (LvIn.mono (HIN.out.stay HB2.out) (by omega)) HK2.out HI2.out (by simp)).mono ?_;rintro e w3 ⟨rfl,hi3,hc3⟩;rw [HV3.out] at hi3 ⊢;have HI3:=Ak hi3;have HK3:=Ak (HK2.out.later hc3);have HB3:=Ak (Chg.trans_below HB2.out hc3 (fun _ e=>by have:=HGZ.out;omega) HB2.out.size);have HX3:=Ak ((hc3.block _ (blk_lt HX2.out) (by have:=HGZ.out;omega)).trans HX2.out);have HY3:=Ak ((hc3.block _ (blk_lt HY2.out) (by have:=HGZ.out;omega)).trans HY2.out);obtain ⟨r0,r1,r2,-,-,-⟩:=row3 HX3.out;have pr:=(show w3.cell? ⟨G+1,0,none⟩=some (.slice (some ⟨G,0,none⟩) nv nv) by rw [cell_of_row _ _ _ _ _ _ HK3.out.row];rfl);clear hi3 hc3)))
   have HFO:=Ak (ofP_nfl HFS.out (good_of_sound HS.out))
   have HNE:=Ak (parts_ne HFO.out.1)
   have HSO:=Ak (short_ok HFO.out.1)
   have HSL:=Ak (Nat.le_trans (short_len_le _) HFO.out.2)
   have HGZ3:=Ak HI3.out.lt
   go_wp2_with (first
    | (go_at_call 112;go_must (refine (of_at (fun k=>G≤k∧k<w3.heap.size) (some ⟨G,0,none⟩) nv nv fs3 HL3.out (fun f hf=>(HFS.out f hf).1) (by omega) l (good_of_sound HS.out) A c _ (LvS.all (HIN.out.stay HB3.out)) (HI3.out.nfs.mono fun k hk hz=>⟨by rcases hk with rfl | hk <;> omega,hz⟩) (fun k hk=>hk.2)).mono ?_;rintro e w4 ⟨A2,n2,c2,rfl,hcap2,hi2,hb⟩;have HI4:=Ak hi2;have HCAP4:=Ak hcap2;have HB4:=Ak (below_then HB3.out HB3.out.size hb);have HY4:=Ak (blk_below HY3.out hb);clear hb hi2 hcap2))
    | (go_at_call 113;go_must (refine (short_calls (fun _=>True) A2 n2 c2 (ofP fs3 l).1 (ofP fs3 l).2 _ (HI4.out.mono fun _ _ _=>trivial) HCAP4.out).mono ?_;obtain ⟨f,hf⟩:∃ f,f=shortN ((ofP fs3 l).1,(ofP fs3 l).2):=⟨_,rfl⟩;rw [← hf];have HF:=Ak hf;rintro e w5 ⟨A3,n3,c3,rfl,hcap3,hi3,hb⟩;have HI5:=Ak hi3.1;have HN5:=Ak hi3.1.1;have HB5:=Ak (below_then HB4.out HB4.out.size hb);have HY5:=Ak (blk_below HY4.out hb);clear hb hi3 hcap3 hf))
    | (go_at_call 114;go_must (refine (level_calls A3 n3 c3 f.1 f.2 _ HI5.out (by rw [HF.out];exact HSO.out) (by rw [← HN5.out,HF.out];exact HSL.out) (by rw [HF.out];exact HNE.out)).mono ?_;obtain ⟨x,hx⟩:∃ x,x=lvlN (f.1,f.2):=⟨_,rfl⟩;rw [← hx];have HXE:=Ak (show instL vs l=x by rw [HIE.out,hx,HF.out,← HOF.out]);rintro e w6 ⟨A4,c4,rfl,hl4,hb⟩;have HL6:=Ak hl4;have HZ6:=Ak HB5.out.size;have HB6:=Ak (below_then HB5.out HB5.out.size hb);have HY6:=Ak (blk_below HY5.out hb);have HYL:=Ak (blk_lt HY5.out);obtain ⟨q0,q1,q2,z0,z1,z2⟩:=row3 HY6.out;clear hb hl4 hx;simp only [lvV])))
   refine bodyPost_ret (results_c rfl _ _ (w.heap.size+1+1) 25 #[.int .i64 x.kind,.int .i64 x.num,.slice A4 x.kids.length c4] (0,0) _ rfl (set3 HY6.out) Try.underlying25 rfl (by kernel_rfl)) rfl ?_
   have hch:=chg_set3 w6 (w.heap.size+1+1) (.int .i64 x.kind) (.int .i64 x.num) (.slice A4 x.kids.length c4)
   have hyl:=HYL.out
   have hz6:=HZ6.out
   rw [HXE.out]
   exact ⟨A4,c4,rfl,(HL6.out.same fun b hb hz=>hch.block b hz (by rcases hb with hb | hb;exact hb.elim;omega)).mono fun b hb _=>hb.elim .inl fun h=>.inr (Nat.le_trans hz6 h),Chg.trans_below HB6.out hch (fun _ e=>by omega) HB6.out.size⟩
  ·have HE:=Ak (show instL vs l=.mk 0 0 [] by unfold instL;rw [if_neg (by rw [← HN.out,hes];simp [he])])
   have he':(e3 != 0)=true:=by simp [he]
   clear hes he
   go_upto_region 6 with (first
    | (go_at_call 110;go_must (refine (walk_inst vs Av nv cv (w.heap.size+1) (G+1) G _ l (Nat.lt_succ_self _) (good_of_sound HS.out) A c 1 _ _ (LvIn.mono (HIN.out.stay HB2.out) (by omega)) HK2.out HI2.out (by simp)).mono ?_;rintro e w3 ⟨rfl,hi3,hc3⟩;rw [HV3.out] at hi3 ⊢;have HB3:=Ak (Chg.trans_below HB2.out hc3 (fun _ e=>by have:=HGZ.out;omega) HB2.out.size);have HY3:=Ak ((hc3.block _ (blk_lt HY2.out) (by have:=HGZ.out;omega)).trans HY2.out);obtain ⟨z0,z1,z2,q0,q1,q2⟩:=row3 HY3.out;clear hi3 hc3)))
   go_wp2
   refine bodyPost_ret (results_c rfl _ _ (w.heap.size+1+1) 25 #[.int .i64 0,.int .i64 0,.slice none 0 0] (0,0) _ rfl (set3 HY3.out) Try.underlying25 rfl (by kernel_rfl)) rfl ?_
   rw [HE.out]
   exact zero_got _ _ (Chg.trans_below HB3.out (chg_set3 _ _ _ _ _) (fun _ e=>by omega) HB3.out.size)
end Go.Proofs.Ytdboloabpjmgaaa

namespace Go.Proofs.Ytdboloabpjmgaaa
open Go.RowKit Go.IntWalk Go.Proofs.YtdboloabpjmgaaaW.PrintWords Go.RegionInvYtdboloabpjmgaaa Go.RegionEYtdboloabpjmgaaa

theorem valR_in (vs:List Int):∀ {l:Lv},Good l→0≤valR vs l∧valR vs l≤1099511627776:=by
 intro l h
 induction h with
 | @mk k n ks h hk ih =>
  rcases good_cases (.mk h hk) with ⟨rfl,rfl,h0,h1⟩ | ⟨rfl,rfl,h0,h1⟩ | ⟨rfl,x,rfl,h0,h1,hx⟩ | ⟨rfl,x,y,rfl,-,-⟩
  ·rw [valR_num];omega
  ·rw [valR_var];exact vAt_in _ _
  ·rw [valR_succ];have:=ih x (by simp);omega
  ·rw [valR_max];have:=ih x (by simp);have:=ih y (by simp);omega
theorem ReadsInt.still {w w':World} {k:IntKind} {A:Option Addr} {n:Nat} {ks:List Int} (h:ReadsInt w k A n ks) (hs:∀ b,b<w.heap.size→w'.heap[b]?=w.heap[b]?):ReadsInt w' k A n ks:=by
 refine ⟨h.1,h.2.1,fun hn=>?_⟩
 obtain ⟨ad,e,hc⟩:=h.2.2 hn
 refine ⟨ad,e,fun j hj=>?_⟩
 have hx:=hc j hj
 exact (cell_same (w:=w) (w':=w') (hs _ (World.block_lt_of_cell? w _ hx))).trans hx
end Go.Proofs.Ytdboloabpjmgaaa

namespace Go.Proofs.Ytdboloabpjmgaaa
open Go.RowKit Go.Proofs.YtdboloabpjmgaaaW.PrintWords Go.RegionInvYtdboloabpjmgaaa Go.RegionEYtdboloabpjmgaaa

theorem zero_not_sound:soundB (.mk 0 0 [])=false:=by
 cases h:soundB (.mk 0 0 []) with
 | false=>rfl
 | true =>
  rcases good_cases (good_of_sound h) with ⟨e,-⟩ | ⟨e,-⟩ | ⟨e,-⟩ | ⟨e,-⟩ <;> exact absurd e (by decide)
theorem instL_sum {us:List Lv} {l:Lv} (hu:∀ u∈us,soundB u=true) (hl:soundB l=true) (hx:soundB (instL us l)=true):eqR (sumP (instL us l)) (ofP (us.map sumP) l):=by
 have hn:NfL (ofP (us.map sumP) l):=ofP_nfl (fun f hf=>by obtain ⟨u,hu',rfl⟩:=List.mem_map.1 hf;exact sum_nfl (hu u hu')) (good_of_sound hl)
 unfold instL at hx ⊢
 split
 ·have h:=lvl_sum (short_ok hn.1) (Nat.le_trans (short_len_le _) hn.2) (parts_ne hn.1)
  exact ⟨fun j=>(h.1 j).trans (atP_short hn.1 j),h.2.trans (least_short hn.1)⟩
 ·rename_i h
  rw [if_neg h,zero_not_sound] at hx
  cases hx
def innerL (us:List Lv) (at_:List Int):List Int:=us.map (valB at_) ++ at_.drop us.length
theorem valB_in (vs:List Int) {l:Lv} (h:soundB l=true):0≤valB vs l∧valB vs l≤1099511627776:=by
 rw [valB_yes h,valN_sum vs (good_of_sound h)];exact valR_in vs (good_of_sound h)
theorem inner_at {us:List Lv} {at_:List Int} (hu:∀ u∈us,soundB u=true) (i:Nat):vAt (innerL us at_) i=if i<us.length then valB at_ (lvAt us i) else vAt at_ i:=by
 unfold innerL
 by_cases hi:i<us.length
 ·rw [if_pos hi,vAt_lt (by simp;omega),rd_nat',List.getD_eq_getElem?_getD,List.getElem?_append_left (by simpa using hi),List.getElem?_map,List.getElem?_eq_getElem hi]
  have hx:=valB_in at_ (hu _ (List.getElem_mem hi))
  have e:lvAt us i=us[i]:=lvAt_get (List.getElem?_eq_getElem hi)
  rw [e]
  simp only [Option.map_some,Option.getD_some]
  omega
 ·rw [if_neg hi]
  unfold vAt
  rw [rd_nat',rd_nat',List.getD_eq_getElem?_getD,List.getD_eq_getElem?_getD,List.getElem?_append_right (by simp;omega)]
  simp only [List.length_append,List.length_map,List.length_drop,List.getElem?_drop]
  rw [show us.length+(i - us.length)=i by omega]
  by_cases h:i<at_.length
  ·rw [if_pos (by omega),if_pos h]
  ·rw [if_neg (by omega),if_neg h]
theorem puts_val {us:List Lv} {l:Lv} {at_:List Int} (hu:∀ u∈us,soundB u=true) (hl:soundB l=true) (hx:soundB (instL us l)=true):valB at_ (instL us l)=valB (innerL us at_) l:=by
 have hn:NfL (ofP (us.map sumP) l):=ofP_nfl (fun f hf=>by obtain ⟨u,hu',rfl⟩:=List.mem_map.1 hf;exact sum_nfl (hu u hu')) (good_of_sound hl)
 rw [valB_yes hx,val_eqR (sumP_ok hx) hn.1 (instL_sum hu hl hx),valN_map hu (inner_at hu) (good_of_sound hl),valB_yes hl,valN_sum _ (good_of_sound hl)]
end Go.Proofs.Ytdboloabpjmgaaa

namespace Go.Proofs.Ytdboloabpjmgaaa
open Go.RowKit Go.Proofs.YtdboloabpjmgaaaW.PrintWords Go.RegionInvYtdboloabpjmgaaa

structure Pl where
 A:Option Addr
 c:Nat
 B:Option Addr
 d:Nat
 K:Option Addr
 e:Nat
instance:Inhabited Pl:=⟨⟨none,0,none,0,none,0⟩⟩
inductive Tm where
 | mk (kind num:Int) (name:ByteArray) (lv:Lv) (ls:List Lv) (kids:List Tm)
def Tm.kind:Tm→Int | .mk k _ _ _ _ _=>k
def Tm.num:Tm→Int | .mk _ n _ _ _ _=>n
def Tm.name:Tm→ByteArray | .mk _ _ s _ _ _=>s
def Tm.lv:Tm→Lv | .mk _ _ _ l _ _=>l
def Tm.ls:Tm→List Lv | .mk _ _ _ _ l _=>l
def Tm.kids:Tm→List Tm | .mk _ _ _ _ _ k=>k
instance:Inhabited Tm:=⟨.mk 0 0 ByteArray.empty (.mk 0 0 []) [] []⟩
def tmC (p:Pl) (t:Tm):List Value:=[.int .i64 t.kind,.int .i64 t.num,.string t.name,.int .i64 t.lv.kind,.int .i64 t.lv.num,.slice p.A t.lv.kids.length p.c,.slice p.B t.ls.length p.d,.slice p.K t.kids.length p.e]
def tmV (p:Pl) (t:Tm):Value:=.agg #[.int .i64 t.kind,.int .i64 t.num,.string t.name,.int .i64 t.lv.kind,.int .i64 t.lv.num,.slice p.A t.lv.kids.length p.c,.slice p.B t.ls.length p.d,.slice p.K t.kids.length p.e]
theorem tmC_len (p:Pl) (t:Tm):(tmC p t).length=8:=rfl
def KidAt (w:World) (S:Nat→Prop) (K:Option Addr) (i:Nat) (q:Pl) (x:Tm):Prop:=
 ∃ b o,K=some ⟨b,o,none⟩∧S b∧∀ (j:Nat) (v:Value),(tmC q x)[j]?=some v→w.cell? ⟨b,o+i * 8+j,none⟩=some v
def Fit (n:Int) (nm:ByteArray) (ls:List Lv):Prop:=(-9223372036854775808≤n∧n≤9223372036854775807)∧nm.size≤140737488355328∧ls.length * 40≤140737488355328
inductive TmS (w:World) (S:Nat→Prop):Pl→Tm→Prop
 | mk {p:Pl} {k n:Int} {nm:ByteArray} {lv:Lv} {ls:List Lv} {ks:List Tm} (q:Nat→Pl) (hlv:LvS w S p.A p.c lv) (hls:LvS w S p.B p.d (.mk 0 0 ls)) (hc:ks.length≤p.e) (hm:p.e≤9223372036854775807) (hf:Fit n nm ls)
   (hcell:∀ (i:Nat) (x:Tm),ks[i]?=some x→KidAt w S p.K i (q i) x) (hk:∀ (i:Nat) (x:Tm),ks[i]?=some x→TmS w S (q i) x):TmS w S p (.mk k n nm lv ls ks)
abbrev TmIn (w:World) (B:Nat):Pl→Tm→Prop:=TmS w fun k=>k<B
theorem KidAt.same {w w':World} {S:Nat→Prop} {K:Option Addr} {i:Nat} {q:Pl} {x:Tm} (h:KidAt w S K i q x) (hs:∀ k,S k→k<w.heap.size→w'.heap[k]?=w.heap[k]?):KidAt w' S K i q x:=by
 obtain ⟨b,o,e,hb,hc⟩:=h
 have hz:b<w.heap.size:=World.block_lt_of_cell? w _ (hc 0 _ rfl)
 exact ⟨b,o,e,hb,fun j v hv=>(cell_same (hs b hb hz)).trans (hc j v hv)⟩
theorem KidAt.mono {w:World} {S S':Nat→Prop} {K:Option Addr} {i:Nat} {q:Pl} {x:Tm} (h:KidAt w S K i q x) (hs:∀ k,S k→k<w.heap.size→S' k):KidAt w S' K i q x:=by
 obtain ⟨b,o,e,hb,hc⟩:=h
 exact ⟨b,o,e,hs b hb (World.block_lt_of_cell? w _ (hc 0 _ rfl)),hc⟩
theorem TmS.same {w w':World} {S:Nat→Prop} {p:Pl} {t:Tm} (h:TmS w S p t) (hs:∀ k,S k→k<w.heap.size→w'.heap[k]?=w.heap[k]?):TmS w' S p t:=by
 induction h with
 | mk q hlv hls hc hm hf hcell _ ih=>exact .mk q (hlv.same hs) (hls.same hs) hc hm hf (fun i x hx=>(hcell i x hx).same hs) ih
theorem TmS.mono {w:World} {S S':Nat→Prop} {p:Pl} {t:Tm} (h:TmS w S p t) (hs:∀ k,S k→k<w.heap.size→S' k):TmS w S' p t:=by
 induction h with
 | mk q hlv hls hc hm hf hcell _ ih=>exact .mk q (hlv.mono hs) (hls.mono hs) hc hm hf (fun i x hx=>(hcell i x hx).mono hs) ih
theorem TmS.later {w w':World} {S:Nat→Prop} {p:Pl} {t:Tm} (h:TmS w S p t) (hb:Below w.heap.size w w'):TmS w' S p t:=h.same fun k _ hk=>hb.block k hk
theorem TmIn.stay {w w':World} {B:Nat} {p:Pl} {t:Tm} (h:TmIn w B p t) (hb:Below B w w'):TmIn w' B p t:=TmS.same h fun k hk _=>hb.block k hk
theorem TmS.all {w:World} {S:Nat→Prop} {p:Pl} {t:Tm} (h:TmS w S p t):TmIn w w.heap.size p t:=h.mono fun _ _ hk=>hk
theorem TmIn.mono {w:World} {B B':Nat} {p:Pl} {t:Tm} (h:TmIn w B p t) (hB:B≤B'):TmIn w B' p t:=TmS.mono h fun _ hk _=>Nat.lt_of_lt_of_le hk hB
theorem TmS.lv {w:World} {S:Nat→Prop} {p:Pl} {t:Tm} (h:TmS w S p t):LvS w S p.A p.c t.lv:=by cases h;assumption
theorem TmS.ls {w:World} {S:Nat→Prop} {p:Pl} {t:Tm} (h:TmS w S p t):LvS w S p.B p.d (.mk 0 0 t.ls):=by cases h;assumption
theorem TmS.len {w:World} {S:Nat→Prop} {p:Pl} {t:Tm} (h:TmS w S p t):t.kids.length≤p.e∧p.e≤9223372036854775807:=by
 cases h with
 | mk q hlv hls hc hm hf hcell hk=>exact ⟨hc,hm⟩
theorem TmS.fit {w:World} {S:Nat→Prop} {p:Pl} {t:Tm} (h:TmS w S p t):Fit t.num t.name t.ls:=by
 cases h with
 | mk q hlv hls hc hm hf hcell hk=>exact hf
theorem TmS.kid {w:World} {S:Nat→Prop} {p:Pl} {t:Tm} (h:TmS w S p t):∃ q:Nat→Pl,∀ (i:Nat) (x:Tm),t.kids[i]?=some x→KidAt w S p.K i (q i) x∧TmS w S (q i) x:=by
 cases h with
 | mk q hlv hls hc hm hf hcell hk=>exact ⟨q,fun i x hx=>⟨hcell i x hx,hk i x hx⟩⟩
def arZ (k:Int):Int:=if k=1∨k=2∨k=7 then 0 else if k=3∨k=4∨k=6 then 2 else if k=5 then 3 else -1
theorem arZ_in (k:Int):-1≤arZ k∧arZ k≤3:=by unfold arZ;split;omega;split;omega;split <;> omega
def nK (t:Tm):Nat:=if (t.kids.length:Int)<arZ t.kind then 0 else (arZ t.kind).toNat
theorem nK_le (t:Tm):nK t≤t.kids.length:=by unfold nK;have:=arZ_in t.kind;split <;> omega
theorem nK_le3 (t:Tm):nK t≤3:=by unfold nK;have:=arZ_in t.kind;split <;> omega
def moreZ (t:Tm) (i:Nat):Int:=if (i:Int)=arZ t.kind - 1∧t.kind≠6 then 1 else 0
theorem moreZ_in (t:Tm) (i:Nat):0≤moreZ t i∧moreZ t i≤1:=by unfold moreZ;split <;> omega
def kidF (t:Tm) (i:Fin (nK t)):Tm:=t.kids[i.1]'(Nat.lt_of_lt_of_le i.2 (nK_le t))
theorem kidF_get (t:Tm) (i:Fin (nK t)):t.kids[i.1]?=some (kidF t i):=List.getElem?_eq_getElem _
theorem kidF_lt (t:Tm) (i:Fin (nK t)):SizeOf.sizeOf (kidF t i)<SizeOf.sizeOf t:=by
 obtain ⟨k,n,nm,lv,ls,ks⟩:=t
 have h:SizeOf.sizeOf (kidF (.mk k n nm lv ls ks) i)<SizeOf.sizeOf ks:=List.sizeOf_lt_of_mem (List.getElem_mem _)
 simp only [Tm.mk.sizeOf_spec]
 omega
def leafT (t:Tm):Bool:=decide (nK t=0)
def runL {α σ:Type} (f:α→σ→Bool × σ):List α→σ→Bool × σ
 | [],s=>(true,s)
 | i :: r,s=>if (f i s).1=true then runL f r (f i s).2 else (false,(f i s).2)
theorem runL_snoc {α σ:Type} (f:α→σ→Bool × σ) (pre:List α) (x:α):∀ s:σ,runL f (pre ++ [x]) s=if (runL f pre s).1=true then f x (runL f pre s).2 else runL f pre s:=by
 induction pre with
 | nil =>
  intro s
  show (if (f x s).1=true then (true,(f x s).2) else (false,(f x s).2))=if true=true then f x s else (true,s)
  rw [if_pos rfl]
  cases h:(f x s).1 <;> simp [h] <;> (rw [← h])
 | cons y r ih =>
  intro s
  rw [List.cons_append,runL,runL]
  by_cases h:(f y s).1=true
  ·rw [if_pos h,if_pos h,ih]
  ·rw [if_neg h,if_neg h];rfl
theorem runL_false {α σ:Type} (f:α→σ→Bool × σ) {pre xs:List α} (hp:pre <+: xs):∀ s:σ,(runL f pre s).1=false→runL f xs s=runL f pre s:=by
 obtain ⟨r,rfl⟩:=hp
 induction pre with
 | nil=>intro s h;cases h
 | cons y q ih =>
  intro s h
  rw [List.cons_append,runL,runL] at *
  by_cases hy:(f y s).1=true
  ·rw [if_pos hy] at h;rw [if_pos hy,if_pos hy];exact ih _ h
  ·rw [if_neg hy,if_neg hy]
def foldP {σ:Type} (F:Tm→Int→Int→σ→Bool × σ) (t:Tm) (d b:Int) (s:σ):Bool × σ:=
 if (F t d b s).1=true then runL (fun (i:Fin (nK t)) s=>foldP F (kidF t i) (d+1) (b+moreZ t i) s) (List.finRange (nK t)) (F t d b s).2 else (false,(F t d b s).2)
termination_by SizeOf.sizeOf t
decreasing_by exact kidF_lt t i
theorem foldP_go {σ:Type} {F:Tm→Int→Int→σ→Bool × σ} {t:Tm} {d b:Int} {s:σ} (h:(F t d b s).1=true) :
  foldP F t d b s=runL (fun (i:Fin (nK t)) s=>foldP F (kidF t i) (d+1) (b+moreZ t i) s) (List.finRange (nK t)) (F t d b s).2:=by rw [foldP,if_pos h]
theorem foldP_stop {σ:Type} {F:Tm→Int→Int→σ→Bool × σ} {t:Tm} {d b:Int} {s:σ} (h:(F t d b s).1=false):foldP F t d b s=F t d b s:=by
 rw [foldP,if_neg (by rw [h];decide)];exact Prod.ext h.symm rfl
end Go.Proofs.Ytdboloabpjmgaaa

namespace Go.Proofs.Ytdboloabpjmgaaa
open Go.RowKit Go.Shelf Go.Proofs.YtdboloabpjmgaaaW.PrintWords Go.RegionInvYtdboloabpjmgaaa
attribute [local go_sem] Oper.semAt_some

theorem tar_calls (k:Int) (w:World):Calls Try.prog 104 #[.int .i64 k] w fun e w'=>e=.returned (.int .i64 (arZ k))∧w'=w:=by
 go_enter Try.func104,Try.ntmps104
 by_cases h1:k=1
 ·subst h1;go_wp2;go_ret;exact ⟨rfl,rfl⟩
 ·by_cases h2:k=2
  ·subst h2;go_wp2;go_ret;exact ⟨rfl,rfl⟩
  ·by_cases h7:k=7
   ·subst h7;go_wp2;go_ret;exact ⟨rfl,rfl⟩
   ·by_cases h3:k=3
    ·subst h3;go_wp2;go_ret;exact ⟨rfl,rfl⟩
    ·by_cases h4:k=4
     ·subst h4;go_wp2;go_ret;exact ⟨rfl,rfl⟩
     ·by_cases h6:k=6
      ·subst h6;go_wp2;go_ret;exact ⟨rfl,rfl⟩
      ·by_cases h5:k=5
       ·subst h5;go_wp2;go_ret;exact ⟨rfl,rfl⟩
       ·have HE:=Ak (show arZ k = -1 by unfold arZ;rw [if_neg (by omega),if_neg (by omega),if_neg h5])
        have b1:(k == 1)=false:=by simp [h1]
        have b2:(k == 2)=false:=by simp [h2]
        have b3:(k == 3)=false:=by simp [h3]
        have b4:(k == 4)=false:=by simp [h4]
        have b5:(k == 5)=false:=by simp [h5]
        have b6:(k == 6)=false:=by simp [h6]
        have b7:(k == 7)=false:=by simp [h7]
        go_wp2
        go_ret
        rw [HE.out]
        exact ⟨rfl,rfl⟩
abbrev tmO (p:Pl) (t:Tm):Obj:=.cells #[.int .i64 t.kind,.int .i64 t.num,.string t.name,.int .i64 t.lv.kind,.int .i64 t.lv.num,.slice p.A t.lv.kids.length p.c,.slice p.B t.ls.length p.d,.slice p.K t.kids.length p.e] 28 (0,0)
theorem row8 {w:World} {g:Nat} {p:Pl} {t:Tm} (h:w.heap[g]?=some (tmO p t)) :
  w.cell? ⟨g,0,none⟩=some (.int .i64 t.kind)∧w.cell? ⟨g,1,none⟩=some (.int .i64 t.num)∧w.cell? ⟨g,2,none⟩=some (.string t.name)∧w.cell? ⟨g,3,none⟩=some (.int .i64 t.lv.kind)∧w.cell? ⟨g,4,none⟩=some (.int .i64 t.lv.num) ∧
   w.cell? ⟨g,5,none⟩=some (.slice p.A t.lv.kids.length p.c)∧w.cell? ⟨g,6,none⟩=some (.slice p.B t.ls.length p.d)∧w.cell? ⟨g,7,none⟩=some (.slice p.K t.kids.length p.e):=by
 refine ⟨?_,?_,?_,?_,?_,?_,?_,?_⟩ <;> (rw [cell_of_row _ _ _ _ _ _ h];rfl)
theorem tkids_calls (p:Pl) (t:Tm) (w:World):Calls Try.prog 96 #[tmV p t] w fun e w'=>e=.returned (.func (.func 117) #[] #[.pointer (some ⟨w.heap.size,0,none⟩)])∧w'=w.alloc (tmO p t):=by
 unfold tmV
 go_enter Try.func96,Try.ntmps96
 go_wp2
 go_ret
 exact ⟨rfl,rfl⟩
structure KpG (n₀:Nat) (G:Nat→Prop) (W W':World):Prop where
 size:W.heap.size≤W'.heap.size
 block:∀ k,k<n₀→¬ G k→W'.heap[k]?=W.heap[k]?
theorem kpG_refl (n₀:Nat) (G:Nat→Prop) (W:World):KpG n₀ G W W:=⟨Nat.le_refl _,fun _ _ _=>rfl⟩
theorem kpG_trans {n₀:Nat} {G:Nat→Prop} {A B C:World} (h:KpG n₀ G A B) (k:KpG n₀ G B C):KpG n₀ G A C:=⟨Nat.le_trans h.size k.size,fun i hi hg=>(k.block i hi hg).trans (h.block i hi hg)⟩
theorem kpG_put {n₀:Nat} {G:Nat→Prop} {w:World} (hn:n₀≤w.heap.size) (W:World) (l:Nat) (o o':Obj) (hl:w.heap.size≤l) (_:W.heap[l]?=some o) (_:o.isCells=false) (_:o.isWalk=false):KpG n₀ G W (W.putObj l o'):=
 ⟨by simp,fun k hk _=>World.putObj_heap_other (by omega)⟩
abbrev encK (t:Tm) (q:Nat→Pl) (i:Fin (nK t)):Array Value:=#[.int .i64 (moreZ t i),tmV (q i) (kidF t i)]
theorem take_fin {n k:Nat} (h:k<n):(List.finRange n).take (k+1)=(List.finRange n).take k ++ [⟨k,h⟩]:=by
 rw [List.take_add_one,List.getElem?_eq_getElem (by simpa using h)]
 simp
set_option maxRecDepth 100000 in
set_option maxHeartbeats 4000000 in
theorem kids1_in (n:Nat) (hn:1≤n) (p:Pl) (t:Tm) (q:Nat→Pl) (l z n₀:Nat) (G S:Nat→Prop) (J Jx:List (Fin (nK t))→World→Prop)
  (hY:∀ (pre:List (Fin (nK t))) (x:Fin (nK t)) (W:World),J pre W→pre.length<nK t→YieldAt Fence.wide (n - 1) Try.prog l (encK t q x) W fun e W' =>
   (e=.returned (.bool true)∧J (pre ++ [x]) W'∧KpG n₀ G W W')∨(e=.returned (.bool false)∧Jx (pre ++ [x]) W'))
  (W:World) (hz:W.heap[z]?=some (tmO p t)) (hz0:z<n₀) (hzG:¬ G z) (hS:∀ k,S k→k<n₀∧¬ G k) (hlen:t.kids.length≤9223372036854775807) (hkid:∀ (i:Nat) (x:Tm),t.kids[i]?=some x→KidAt W S p.K i (q i) x) (h0:J [] W) :
  CallsIn Fence.wide n Try.prog 117 #[.func (.yield l) #[] #[],.pointer (some ⟨z,0,none⟩)] W fun e W'=>(∃ v,e=.returned v) ∧
   ((∃ ys,ys=List.finRange (nK t)∧J ys W')∨(∃ pre,pre <+: List.finRange (nK t)∧Jx pre W')):=by
 refine callsIn_of_wp Try.func117 rfl trivial ?_ rfl
 simp only [Try.ntmps117,List.size_toArray,List.length_cons,List.length_nil,Nat.reduceAdd,Nat.reduceSub,Array.replicate_succ,Array.replicate_zero,List.push_toArray,List.append_toArray,List.nil_append,List.cons_append]
 obtain ⟨pA,pc,pB,pd,pK,pe⟩:=p
 obtain ⟨c0,c1,c2,c3,c4,c5,c6,c7⟩:=row8 hz
 dsimp only at c5 c6 c7
 have HZ:=Ak hz
 have HK:=Ak hkid
 have HS:=Ak hS
 have har:=arZ_in t.kind
 obtain ⟨L,hL⟩:∃ L,L=t.kids.length:=⟨_,rfl⟩
 have HL:=Ak hL
 rw [← hL] at c7 hlen
 have HN:=Ak (show nK t=if (L:Int)<arZ t.kind then 0 else (arZ t.kind).toNat by rw [hL];rfl)
 obtain ⟨ar,hra⟩:∃ ar,ar=arZ t.kind:=⟨_,rfl⟩
 have HAC:=Ak (show Calls Try.prog 104 #[.int .i64 t.kind] W fun e w'=>e=.returned (.int .i64 ar)∧w'=W by rw [hra];exact tar_calls _ _)
 have HAR:=Ak hra
 rw [← hra] at har HN
 clear hz hkid hS hL hra
 by_cases hlt:(L:Int)<ar
 ·have hd:decide ((L:Int)<ar)=true:=decide_eq_true hlt
  have HN0:=Ak (show nK t=0 by rw [HN.out,if_pos hlt])
  gi_wp2_with (refine ⟨trivial,?_⟩;gi_at_call 104;refine (callsIn_wide.2 HAC.out).mono ?_;rintro e w' ⟨rfl,hw⟩;rw [hw];clear hw w')
  refine bodyPost_ret (results_none rfl _ _ _) rfl ?_
  refine ⟨⟨_,rfl⟩,.inl ⟨_,rfl,?_⟩⟩
  have:List.finRange (nK t)=[]:=List.eq_nil_of_length_eq_zero (by simp [HN0.out])
  rw [this];exact h0
 ·by_cases hpos:ar≤0
  ·have HN0:=Ak (show nK t=0 by rw [HN.out,if_neg hlt];omega)
   gi_wp2_with (refine ⟨trivial,?_⟩;gi_at_call 104;refine (callsIn_wide.2 HAC.out).mono ?_;rintro e w' ⟨rfl,hw⟩;rw [hw];clear hw w')
   gi_loopw [16] (fun i wr=>i=.int .i64 0∧J [] wr) (fun _ _=>0)
   case atStart=>exact ⟨rfl,h0⟩
   case round =>
    obtain ⟨rfl,hJs⟩:=hrel
    gi_wp2
    go_end0
    refine ⟨⟨_,rfl⟩,.inl ⟨_,rfl,?_⟩⟩
    have:List.finRange (nK t)=[]:=List.eq_nil_of_length_eq_zero (by simp [HN0.out])
    rw [this];exact hJs
  obtain ⟨m,rfl⟩:∃ m:Nat,ar=(m:Int):=⟨ar.toNat,by omega⟩
  have HNM:=Ak (show nK t=m by rw [HN.out,if_neg hlt];omega)
  have hm3:m≤3:=by omega
  have hm0:0<m:=by omega
  have hmL:m≤L:=by omega
  have hd2:decide (L<m)=false:=decide_eq_false (by omega)
  clear hlt hpos har
  gi_wp2_with (refine ⟨trivial,?_⟩;gi_at_call 104;refine (callsIn_wide.2 HAC.out).mono ?_;rintro e w' ⟨rfl,hw⟩;rw [hw];clear hw w')
  gi_loopw [16] (fun i wr=>∃ k:Nat,k≤m∧i=.int .i64 k∧J ((List.finRange (nK t)).take k) wr∧KpG n₀ G W wr) (fun i _=>m - (intOf i).toNat)
  case atStart=>exact ⟨0,Nat.zero_le _,rfl,h0,kpG_refl _ _ _⟩
  case round =>
   clear c0 c1 c2 c3 c4 c5 c6 c7
   obtain ⟨k,hk,rfl,hJs,hkp⟩:=hrel
   have HZR:=Ak ((hkp.block z hz0 hzG).trans HZ.out)
   obtain ⟨c0,c1,c2,c3,c4,c5,c6,c7⟩:=row8 HZR.out
   dsimp only at c5 c6 c7
   rw [← HL.out] at c7
   by_cases hlk:k<m
   ·have hkn:k<nK t:=by rw [HNM.out];exact hlk
    obtain ⟨fn,tmps,assign,body,hy,hR⟩:=hY _ ⟨k,hkn⟩ wr hJs (by simp;omega)
    unfold encK tmV at hy
    dsimp only at hy
    have HTK:=Ak (take_fin hkn)
    obtain ⟨b,o,hKa,hSb,hcells⟩:=(HK.out k _ (kidF_get t ⟨k,hkn⟩)).same (w':=wr) fun j hj _=>hkp.block j (HS.out j hj).1 (HS.out j hj).2
    obtain ⟨x,hx⟩:∃ x,x=kidF t ⟨k,hkn⟩:=⟨_,rfl⟩
    rw [← hx] at hy hcells
    subst hKa
    have e0:=hcells 0 _ rfl
    have e1:=hcells 1 _ rfl
    have e2:=hcells 2 _ rfl
    have e3:=hcells 3 _ rfl
    have e4:=hcells 4 _ rfl
    have e5:=hcells 5 _ rfl
    have e6:=hcells 6 _ rfl
    have e7:=hcells 7 _ rfl
    clear hcells hx
    rw [Nat.add_zero] at e0
    by_cases hkm:(k:Int)=(m:Int) - 1
    ·have hb1:((k:Int) == (m:Int) - 1)=true:=by simp [hkm]
     have HKM:=Ak hkm
     clear hkm
     by_cases h6:t.kind=6
     ·have hb6:(t.kind != 6)=false:=by simp [h6]
      have H6:=Ak h6
      clear h6
      have HM:=Ak (show moreZ t k=0 by unfold moreZ;rw [← HAR.out,if_neg (fun h=>h.2 H6.out)])
      rw [HM.out] at hy
      gi_wp2
      refine hR.mono ?_
      rintro e W3 (⟨rfl,hJ3,hk3⟩ | ⟨rfl,hJx3⟩)
      ·gi_wp2
       go_roundw
       case rel=>exact ⟨k+1,by omega,by go_num,by rw [HTK.out];exact hJ3,kpG_trans hkp hk3⟩
       case measure=>(simp [intOf];try omega)
      ·gi_wp2
       refine bodyPost_ret (results_none rfl _ _ _) rfl ?_
       exact ⟨⟨_,rfl⟩,.inr ⟨_,by rw [← HTK.out];exact List.take_prefix _ _,hJx3⟩⟩
     ·have hb6:(t.kind != 6)=true:=by simp [h6]
      have HM:=Ak (show moreZ t k=1 by unfold moreZ;rw [← HAR.out,if_pos ⟨HKM.out,h6⟩])
      rw [HM.out] at hy
      gi_wp2
      refine hR.mono ?_
      rintro e W3 (⟨rfl,hJ3,hk3⟩ | ⟨rfl,hJx3⟩)
      ·gi_wp2
       go_roundw
       case rel=>exact ⟨k+1,by omega,by go_num,by rw [HTK.out];exact hJ3,kpG_trans hkp hk3⟩
       case measure=>(simp [intOf];try omega)
      ·gi_wp2
       refine bodyPost_ret (results_none rfl _ _ _) rfl ?_
       exact ⟨⟨_,rfl⟩,.inr ⟨_,by rw [← HTK.out];exact List.take_prefix _ _,hJx3⟩⟩
    ·have hb1:((k:Int) == (m:Int) - 1)=false:=by simp [hkm]
     have HKM:=Ak hkm
     clear hkm
     have HM:=Ak (show moreZ t k=0 by unfold moreZ;rw [← HAR.out,if_neg (fun h=>HKM.out h.1)])
     rw [HM.out] at hy
     gi_wp2
     refine hR.mono ?_
     rintro e W3 (⟨rfl,hJ3,hk3⟩ | ⟨rfl,hJx3⟩)
     ·gi_wp2
      go_roundw
      case rel=>exact ⟨k+1,by omega,by go_num,by rw [HTK.out];exact hJ3,kpG_trans hkp hk3⟩
      case measure=>(simp [intOf];try omega)
     ·gi_wp2
      refine bodyPost_ret (results_none rfl _ _ _) rfl ?_
      exact ⟨⟨_,rfl⟩,.inr ⟨_,by rw [← HTK.out];exact List.take_prefix _ _,hJx3⟩⟩
   ·obtain rfl:k=m:=by omega
    have hlk':decide ((k:Int)<k)=false:=by simp
    gi_wp2
    go_end0
    exact ⟨⟨_,rfl⟩,.inl ⟨_,rfl,by rwa [List.take_of_length_le (by simp [HNM.out])] at hJs⟩⟩
theorem kids_stops (n:Nat) (hn:1≤n) (p:Pl) (t:Tm) (q:Nat→Pl) (z n₀:Nat) (G S:Nat→Prop) (w:World) (hz:w.heap[z]?=some (tmO p t)) (hz0:z<n₀) (hn0:n₀≤w.heap.size) (hzG:¬ G z) (hS:∀ k,S k→k<n₀∧¬ G k)
  (hlen:t.kids.length≤9223372036854775807) (hkid:∀ (i:Nat) (x:Tm),t.kids[i]?=some x→KidAt w S p.K i (q i) x) :
  SeqStopsK Fence.wide n Try.prog 117 #[.pointer (some ⟨z,0,none⟩)] (encK t q) (KpG n₀ G) (fun ys=>ys=List.finRange (nK t)) (fun pre=>pre <+: List.finRange (nK t)) (nK t) w:=fun l J Jx W hW _ _ hY h0 =>
 kids1_in n hn p t q l z n₀ G S J Jx hY W (blk_below hz hW) hz0 hzG hS hlen (fun i x hx=>(hkid i x hx).same fun k _ hk=>hW.block k hk) h0
theorem chg_cut {G:Nat→Prop} {w w0 w1 w2:World} (h0:Chg G w w0) (h1:Chg (fun k=>G k∨w.heap.size≤k) w0 w1) (h2:Chg (fun k=>G k∨w.heap.size≤k) w1 w2):Chg G w w2:=by
 have hz0:=h0.size
 have hz1:=h1.size
 have hz2:=h2.size
 refine ⟨h2.os.trans (h1.os.trans h0.os),h2.tape.trans (h1.tape.trans h0.tape),h2.output.trans (h1.output.trans h0.output),by omega,fun k hk hg=>?_⟩
 have hn:¬ (G k∨w.heap.size≤k):=fun h=>h.elim hg (by omega)
 exact (h2.block k (by omega) hn).trans ((h1.block k (by omega) hn).trans (h0.block k hk hg))
theorem chg_grown {S:Nat→Prop} {w X Y:World} {row:Option Nat} (h:Chg S w X) (hg:X.grownBy Y row) (hr:∀ r,row=some r→w.heap.size≤r):Chg S w Y:=
 ⟨hg.os.trans h.os,hg.tape.trans h.tape,hg.output.trans h.output,Nat.le_trans h.size hg.size,fun k hk hn=>(hg.block k (Nat.lt_of_lt_of_le hk h.size) (fun e=>by have:=hr k e.symm;omega)).trans (h.block k hk hn)⟩
theorem KeepsFrom.of_chg {S:Nat→Prop} {B:Nat} {W W':World} (h:Chg S W W') (hS:∀ k,S k→k<B):Go.KeepsFrom B W W':=
 ⟨h.size,fun k o hB ho _=>(h.block k (Array.getElem?_eq_some_iff.1 ho).1 (fun hs=>by have:=hS k hs;omega)).trans ho⟩
theorem chg_put (W:World) (D:Nat) (o:Obj):Chg (fun k=>k=D) W (W.putObj D o):=⟨rfl,rfl,rfl,by simp,fun k _ hn=>World.putObj_heap_other (fun e=>hn (by omega))⟩
def FoldPost {σ:Type} (Rep:σ→World→Prop) (G:Nat→Prop) (w:World) (r:Bool × σ) (e:Ending) (w':World):Prop:=e=.returned (.bool r.1)∧Rep r.2 w'∧Chg G w w'
theorem foldP_inv {σ:Type} {F:Tm→Int→Int→σ→Bool × σ} {Inv:σ→Prop} {P:Tm→Int→Prop} (hF:∀ (t:Tm) (d b:Int) (s:σ),P t d→Inv s→(F t d b s).1=true→Inv (F t d b s).2∧∀ i:Fin (nK t),P (kidF t i) (d+1)) (N:Nat) :
  ∀ (t:Tm),SizeOf.sizeOf t<N→∀ (d b:Int) (s:σ),P t d→Inv s→(foldP F t d b s).1=true→Inv (foldP F t d b s).2:=by
 induction N with
 | zero=>intro t h;omega
 | succ N ih =>
  intro t hN d b s hP hI h
  by_cases h1:(F t d b s).1=true
  ·rw [foldP_go h1] at h ⊢
   have h2:=hF t d b s hP hI h1
   have key:∀ (xs:List (Fin (nK t))) (s:σ),Inv s→(runL (fun (i:Fin (nK t)) s=>foldP F (kidF t i) (d+1) (b+moreZ t i) s) xs s).1=true→Inv (runL (fun (i:Fin (nK t)) s=>foldP F (kidF t i) (d+1) (b+moreZ t i) s) xs s).2:=by
    intro xs
    induction xs with
    | nil=>intro s hs _;exact hs
    | cons x r ihr =>
     intro s hs h
     rw [runL] at h ⊢
     by_cases hx:(foldP F (kidF t x) (d+1) (b+moreZ t x) s).1=true
     ·rw [if_pos hx] at h ⊢
      exact ihr _ (ih (kidF t x) (by have:=kidF_lt t x;omega) _ _ _ (h2.2 x) hs hx) h
     ·rw [if_neg hx] at h;cases h
   exact key _ _ h2.1 h
  ·rw [foldP_stop (by simpa using h1)] at h;exact absurd h h1
end Go.Proofs.Ytdboloabpjmgaaa

namespace Go.Proofs.Ytdboloabpjmgaaa
open Go.RowKit Go.Shelf Go.Proofs.YtdboloabpjmgaaaW.PrintWords Go.RegionInvYtdboloabpjmgaaa
attribute [local go_sem] Oper.semAt_some

abbrev vfMe (g1 g2:Nat):Value:=.func (.func 95) #[] #[.pointer (some ⟨g1,0,none⟩),.pointer (some ⟨g2,0,none⟩)]
abbrev foWMe (w:World) (p:Pl) (t:Tm) (d b:Int) (g1 g2:Nat):World:=
 ((((w.alloc (tmO p t)).alloc (.cells #[.int .i64 d] 3 (0,0))).alloc (.cells #[.int .i64 b] 3 (0,0))).alloc (.cells #[vfMe g1 g2] 66 (0,0))).alloc (.cells #[.bool false] 4 (0,0))
set_option maxRecDepth 100000 in
set_option maxHeartbeats 16000000 in
theorem fold_Me {σ:Type} (F:Tm→Int→Int→σ→Bool × σ) (Rep:σ→World→Prop) (Inv:σ→Prop) (P:Tm→Int→Prop) (G:Nat→Prop) (B g0:Nat) (g1 g2:Nat)
  (hG:∀ k,G k→B≤k∧k<g0) (hBg:B≤g0) (hRep:∀ (s:σ) (W W':World),Rep s W→(∀ k,G k→W'.heap[k]?=W.heap[k]?)→Rep s W')
  (hvis:∀ (t:Tm) (p:Pl) (d b:Int) (s:σ) (w:World),P t d→0≤b→b≤d→Inv s→g0≤w.heap.size→TmIn w B p t→Rep s w→Calls Try.prog 95 #[tmV p t,.int .i64 d,.int .i64 b,.pointer (some ⟨g1,0,none⟩),.pointer (some ⟨g2,0,none⟩)] w (FoldPost Rep G w (F t d b s)))
  (hF:∀ (t:Tm) (d b:Int) (s:σ),P t d→Inv s→(F t d b s).1=true→Inv (F t d b s).2∧∀ i:Fin (nK t),P (kidF t i) (d+1)) (hP:∀ t d,P t d→0≤d∧d≤100000)
  (N:Nat):∀ (t:Tm),SizeOf.sizeOf t<N→∀ (p:Pl) (d b:Int) (s:σ) (w:World),P t d→0≤b→b≤d→Inv s→g0≤w.heap.size→TmIn w B p t→Rep s w →
  Calls Try.prog 58 #[tmV p t,.int .i64 d,.int .i64 b,vfMe g1 g2] w (FoldPost Rep G w (foldP F t d b s)):=by
 induction N with
 | zero=>intro t h;omega
 | succ N ih =>
  intro t hN p d b s w hPd hb0 hbd hI hg hin hR
  have IH:=Ak ih
  have HG:=Ak hG
  have HRP:=Ak hRep
  have HVS:=Ak hvis
  have HF:=Ak hF
  have HP:=Ak hPd
  have HI:=Ak hI
  have HIN:=Ak hin
  have HR:=Ak hR
  have HNN:=Ak hN
  have hd:=hP t d hPd
  have HPP:=Ak hP
  have hz0:(foWMe w p t d b g1 g2).heap.size=w.heap.size+5:=by simp
  have hb0w:Below w.heap.size w (foWMe w p t d b g1 g2):=below_alloc (below_alloc (below_alloc (below_alloc (below_alloc (Below.refl _ _) _) _) _) _) _
  have HZ0:=Ak hz0
  have HB0:=Ak hb0w
  have HX0:=Ak (show (foWMe w p t d b g1 g2).heap[w.heap.size]?=some (tmO p t) from blk_alloc (blk_alloc (blk_alloc (blk_alloc (blk_new _ _) _) _) _) _)
  have HX1:=Ak (show (foWMe w p t d b g1 g2).heap[w.heap.size+1]?=some (.cells #[.int .i64 d] 3 (0,0)) by have:=blk_new (w.alloc (tmO p t)) (.cells #[.int .i64 d] 3 (0,0));simp only [World.size_alloc] at this;exact blk_alloc (blk_alloc (blk_alloc this _) _) _)
  have HX2:=Ak (show (foWMe w p t d b g1 g2).heap[w.heap.size+1+1]?=some (.cells #[.int .i64 b] 3 (0,0)) by have:=blk_new ((w.alloc (tmO p t)).alloc (.cells #[.int .i64 d] 3 (0,0))) (.cells #[.int .i64 b] 3 (0,0));simp only [World.size_alloc] at this;exact blk_alloc (blk_alloc this _) _)
  have HX3:=Ak (show (foWMe w p t d b g1 g2).heap[w.heap.size+1+1+1]?=some (.cells #[vfMe g1 g2] 66 (0,0)) by have:=blk_new (((w.alloc (tmO p t)).alloc (.cells #[.int .i64 d] 3 (0,0))).alloc (.cells #[.int .i64 b] 3 (0,0))) (.cells #[vfMe g1 g2] 66 (0,0));simp only [World.size_alloc] at this;exact blk_alloc this _)
  have HX4:=Ak (show (foWMe w p t d b g1 g2).heap[w.heap.size+1+1+1+1]?=some (.cells #[.bool false] 4 (0,0)) by have:=blk_new ((((w.alloc (tmO p t)).alloc (.cells #[.int .i64 d] 3 (0,0))).alloc (.cells #[.int .i64 b] 3 (0,0))).alloc (.cells #[vfMe g1 g2] 66 (0,0))) (.cells #[.bool false] 4 (0,0));simp only [World.size_alloc] at this;exact this)
  have hR0:Rep s (foWMe w p t d b g1 g2):=hRep _ _ _ hR fun k hk=>hb0w.block k (Nat.lt_of_lt_of_le (hG k hk).2 hg)
  have HR0:=Ak hR0
  have HIN0:=Ak (hin.stay (hb0w.mono (Nat.le_trans hBg hg)))
  have HGG:=Ak (show ∀ k,G k→k<w.heap.size from fun k hk=>Nat.lt_of_lt_of_le (hG k hk).2 hg)
  clear ih hG hRep hvis hF hPd hI hin hR hN hP hz0 hb0w hR0
  unfold tmV vfMe
  refine (callsIn_wide (n:=5)).1 ?_
  refine callsIn_of_wp_marks Try.func58 rfl trivial ?_ rfl
  simp only [Try.ntmps58,List.size_toArray,List.length_cons,List.length_nil,Nat.reduceAdd,Nat.reduceSub,Array.replicate_succ,Array.replicate_zero,List.push_toArray,List.append_toArray,List.nil_append,List.cons_append]
  obtain ⟨e1,s1,hes⟩:∃ x y,F t d b s=(x,y):=⟨_,_,rfl⟩
  have HV:=Ak hes
  cases e1 with
  | false =>
   have HE:=Ak (show foldP F t d b s=(false,s1) by rw [foldP_stop (by rw [hes]),hes])
   clear hes
   gi_wp2
   refine ⟨trivial,?_⟩
   gi_at_call 95
   refine (callsIn_wide.2 (HVS.out t p d b s _ HP.out hb0 hbd HI.out (Nat.le_trans hg HB0.out.size) HIN0.out HR0.out)).mono ?_
   rintro e w1 ⟨rfl,hR1,hC1⟩
   rw [HV.out] at hR1 ⊢
   have HR1:=Ak hR1
   have HC1:=Ak hC1
   have hx4:=(hC1.block _ (by rw [HZ0.out];omega) (fun h=>by have:=HGG.out _ h;omega)).trans HX4.out
   have HX41:=Ak hx4
   have c4:w1.cell? ⟨w.heap.size+1+1+1+1,0,none⟩=some (.bool false):=by (rw [cell_of_row _ _ _ _ _ _ hx4];rfl)
   have f4:=blk_frozen hx4 0
   clear hR1 hC1 hx4
   gi_wp2
   have hc5:(w1.setCell ⟨w.heap.size+1+1+1+1,0,none⟩ (.bool false)).cell? ⟨w.heap.size+1+1+1+1,0,none⟩=some (.bool false):=World.cell?_setCell_same' _ _ _ (by rw [c4];rfl)
   refine ⟨.bool false,?_,?_⟩
   ·simp [results,Try.f58,go_sem,hc5]
   ·rw [HE.out]
    refine ⟨rfl,HRP.out _ _ _ HR1.out (fun k hk=>(chg_set w1 (w.heap.size+1+1+1+1) 0 (.bool false)).block k (by have:=HC1.out.size;have:=HZ0.out;have:=HGG.out k hk;omega) (fun e=>by have:=HGG.out k hk;omega)),?_⟩
    exact chg_cut (Chg.of_below HB0.out) (HC1.out.mono fun k h=>.inl h) ((chg_set w1 _ 0 _).mono fun k h=>.inr (by have h:k=w.heap.size+1+1+1+1:=h;omega))
  | true =>
   have h2:=HF.out t d b s HP.out HI.out (by rw [hes])
   rw [hes] at h2
   have HI1:=Ak h2.1
   have HPK:=Ak h2.2
   have HE:=Ak (show foldP F t d b s=runL (fun (i:Fin (nK t)) s=>foldP F (kidF t i) (d+1) (b+moreZ t i) s) (List.finRange (nK t)) s1 by rw [foldP_go (by rw [hes]),hes])
   clear hes h2
   gi_wp2
   refine ⟨trivial,?_⟩
   gi_at_call 95
   refine (callsIn_wide.2 (HVS.out t p d b s _ HP.out hb0 hbd HI.out (Nat.le_trans hg HB0.out.size) HIN0.out HR0.out)).mono ?_
   rintro e w1 ⟨rfl,hR1,hC1⟩
   rw [HV.out] at hR1 ⊢
   have HR1:=Ak hR1
   have HC1:=Ak hC1
   have hgn:∀ j,w.heap.size≤j→¬ G j:=fun j hj h=>by have:=HGG.out j h;omega
   have hX0:=(hC1.block w.heap.size (by rw [HZ0.out];omega) (hgn _ (by omega))).trans HX0.out
   have hX1:=(hC1.block _ (by rw [HZ0.out];omega) (hgn _ (by omega))).trans HX1.out
   have hX2:=(hC1.block _ (by rw [HZ0.out];omega) (hgn _ (by omega))).trans HX2.out
   have hX3:=(hC1.block _ (by rw [HZ0.out];omega) (hgn _ (by omega))).trans HX3.out
   have hX4:=(hC1.block _ (by rw [HZ0.out];omega) (hgn _ (by omega))).trans HX4.out
   have hz1:=hC1.size
   rw [HZ0.out] at hz1
   have HX01:=Ak hX0
   have HX11:=Ak hX1
   have HX21:=Ak hX2
   have HX31:=Ak hX3
   have HX41:=Ak hX4
   have HGN:=Ak hgn
   have HIN1:=Ak (HIN0.out.same (w':=w1) fun k hk hz=>hC1.block k hz (fun h=>by have:=(HG.out k h).1;omega))
   obtain ⟨c0,c1,c2,c3,c4,c5,c6,c7⟩:=row8 hX0
   clear hR1 hC1 hX0 hX1 hX2 hX3 hX4 hgn
   gi_wp2
   refine ⟨trivial,?_⟩
   gi_at_call 96
   refine (callsIn_wide.2 (tkids_calls p t _)).mono ?_
   rintro e w2 ⟨rfl,hw2⟩
   have HZX2:=Ak (show w2.heap[w1.heap.size]?=some (tmO p t) by rw [hw2];exact blk_new _ _)
   have HB2:=Ak (show Below w1.heap.size w1 w2 by rw [hw2];exact below_alloc (Below.refl _ _) _)
   clear hw2 c0 c1 c2 c3 c4 c5 c6 c7
   gi_wp2
   obtain ⟨q,hq⟩:=(HIN1.out.later HB2.out).kid
   have HQ:=Ak hq
   have hlen:=HIN1.out.len
   have hz2:=HB2.out.size
   have hzz:=blk_lt HZX2.out
   have hgl:∀ k,G k→k<w2.heap.size:=fun k hk=>by have:=HGG.out k hk;omega
   have HGL:=Ak hgl
   have HINV:=Ak (foldP_inv HF.out)
   clear hq
   refine wpIn_rangeFunc_ownH (F:=Fence.wide) rfl (by decide) (gf:=117) (lb:=#[.pointer (some ⟨w1.heap.size,0,none⟩)]) rfl trivial (enters_of Try.func117 (by kernel_rfl) rfl)
    (kids_stops (5 - 1) (by decide) p t q w1.heap.size w2.heap.size G (fun k=>k<B) w2 HZX2.out hzz (Nat.le_refl _) (HGN.out _ (by omega)) (fun k hk=>⟨by omega,fun h=>by have:=(HG.out k h).1;omega⟩) (by omega) (fun i x hx=>(HQ.out i x hx).1))
    kpG_trans (kpG_put (Nat.le_refl _)) (Below.refl _ _) (fun _=>rfl)
    (fun pre W=>((runL (fun (i:Fin (nK t)) s=>foldP F (kidF t i) (d+1) (b+moreZ t i) s) pre s1).1=true∧Inv (runL (fun (i:Fin (nK t)) s=>foldP F (kidF t i) (d+1) (b+moreZ t i) s) pre s1).2)∧Rep (runL (fun (i:Fin (nK t)) s=>foldP F (kidF t i) (d+1) (b+moreZ t i) s) pre s1).2 W∧Chg G w2 W)
    (fun c pre W=>(c=.ret∧(runL (fun (i:Fin (nK t)) s=>foldP F (kidF t i) (d+1) (b+moreZ t i) s) pre s1).1=false)∧(Rep (runL (fun (i:Fin (nK t)) s=>foldP F (kidF t i) (d+1) (b+moreZ t i) s) pre s1).2 W∧W.heap[w.heap.size+1+1+1+1]?=some (.cells #[.bool false] 4 (0,0)))∧Chg (fun k=>G k∨k=w.heap.size+1+1+1+1) w2 W)
    (fun pre X Y row hs hg hr=>⟨hs.1,HRP.out _ X Y hs.2.1 (fun k hk=>hg.block k (Nat.lt_of_lt_of_le (HGL.out k hk) hs.2.2.size) (fun e=>by have:=(hr k e.symm).1;have:=HGL.out k hk;omega)),chg_grown hs.2.2 hg (fun r e=>(hr r e).1)⟩)
    (fun c pre X Y row hs hg hr=>⟨hs.1,⟨HRP.out _ X Y hs.2.1.1 (fun k hk=>hg.block k (Nat.lt_of_lt_of_le (HGL.out k hk) hs.2.2.size) (fun e=>by have:=(hr k e.symm).1;have:=HGL.out k hk;omega)),(hg.block _ (blk_lt hs.2.1.2) (fun e=>by have:=(hr _ e.symm).1;omega)).trans hs.2.1.2⟩,chg_grown hs.2.2 hg (fun r e=>(hr r e).1)⟩)
    ⟨⟨rfl,HI1.out⟩,HRP.out _ w1 w2 HR1.out (fun k hk=>HB2.out.block k (by have:=HGG.out k hk;omega)),Chg.refl _ _⟩
    (fun x a' W=>∃ Bx,w2.heap.size≤Bx∧W.heap[Bx]?=some (tmO (q x) (kidF t x))∧a' = { tmps:=#[tmV p t,.int .i64 d,.int .i64 b,vfMe g1 g2,.pointer (some ⟨w.heap.size,0,none⟩),.pointer (some ⟨w.heap.size+1,0,none⟩),.pointer (some ⟨w.heap.size+1+1,0,none⟩),.pointer (some ⟨w.heap.size+1+1+1,0,none⟩),.pointer (some ⟨w.heap.size+1+1+1+1,0,none⟩),.int .i64 (moreZ t x),.pointer (some ⟨Bx,0,none⟩),vfMe g1 g2,tmV p t,.int .i64 d,.int .i64 b,.bool true,.bool false,tmV p t,.func (.func 117) #[] #[.pointer (some ⟨w1.heap.size,0,none⟩)],.int .i64 (moreZ t x),tmV (q x) (kidF t x),undef,undef,undef,undef,undef,undef,undef,undef,undef],defers:=[] })
    (fun x a' _ X Y row hs hg hr=>by obtain ⟨Bx,h1,h2,h3⟩:=hs;exact ⟨Bx,h1,(hg.block _ (blk_lt h2) (fun e=>by obtain ⟨o,ho,hc⟩:=(hr _ e.symm).2;rw [h2] at ho;cases ho;cases hc)).trans h2,h3⟩)
    ?assign ?body ?done ?stop
   case assign =>
    rintro l pre x W K ⟨hA,hRW,hCW⟩ hK
    dsimp only [encK,tmV]
    have hAA:=Ak hA
    have hb1:Below W.heap.size W (W.alloc (tmO (q x) (kidF t x))):=below_alloc (Below.refl _ _) _
    have HKK:=Ak (hK { tmps:=#[tmV p t,.int .i64 d,.int .i64 b,vfMe g1 g2,.pointer (some ⟨w.heap.size,0,none⟩),.pointer (some ⟨w.heap.size+1,0,none⟩),.pointer (some ⟨w.heap.size+1+1,0,none⟩),.pointer (some ⟨w.heap.size+1+1+1,0,none⟩),.pointer (some ⟨w.heap.size+1+1+1+1,0,none⟩),.int .i64 (moreZ t x),.pointer (some ⟨W.heap.size,0,none⟩),vfMe g1 g2,tmV p t,.int .i64 d,.int .i64 b,.bool true,.bool false,tmV p t,.func (.func 117) #[] #[.pointer (some ⟨w1.heap.size,0,none⟩)],.int .i64 (moreZ t x),tmV (q x) (kidF t x),undef,undef,undef,undef,undef,undef,undef,undef,undef],defers:=[] } _ (KeepsFrom.of_chg (Chg.of_below (S:=fun _=>False) hb1) (fun k h=>h.elim)) ⟨hb1.size,fun k hk _=>hb1.block k (by have:=hCW.size;omega)⟩ ⟨hA,HRP.out _ _ _ hRW (fun k hk=>hb1.block k (by have:=HGL.out k hk;have:=hCW.size;omega)),chg_trans hCW (Chg.of_below hb1)⟩ ⟨W.heap.size,hCW.size,blk_new _ _,rfl⟩)
    clear hK hA hAA hb1
    gi_wp2
    exact HKK.out
   case body =>
    rintro l pre x a' W hl ⟨r,hr⟩ ⟨⟨hA,hIv⟩,hRW,hCW⟩ ⟨Bx,hBx,bX,rfl⟩ hlt
    obtain ⟨sp,hsp⟩:∃ sp,runL (fun (i:Fin (nK t)) s=>foldP F (kidF t i) (d+1) (b+moreZ t i) s) pre s1=(true,sp):=⟨_,Prod.ext hA rfl⟩
    rw [hsp] at hIv hRW
    have HSP:=Ak hsp
    obtain ⟨ev,s2,hev⟩:∃ ev s2,foldP F (kidF t x) (d+1) (b+moreZ t x) sp=(ev,s2):=⟨_,_,rfl⟩
    have HEV:=Ak hev
    have HSN:=Ak (show runL (fun (i:Fin (nK t)) s=>foldP F (kidF t i) (d+1) (b+moreZ t i) s) (pre ++ [x]) s1=(ev,s2) by rw [runL_snoc,hsp];exact hev)
    have HIV2:=Ak (show ev=true→Inv s2 from fun h=>by have:=HINV.out _ (kidF t x) (Nat.lt_succ_self _) (d+1) (b+moreZ t x) sp (HPK.out x) hIv (by rw [hev];exact h);rwa [hev] at this)
    have HIV:=Ak hIv
    have HRW:=Ak hRW
    have HCW:=Ak hCW
    have HKD:=Ak ((HQ.out x _ (kidF_get t x)).2.same (w':=W) fun k hk hz=>hCW.block k hz (fun h=>by have:=(HG.out k h).1;omega))
    have hszW:=hCW.size
    have st:∀ j,w.heap.size≤j→j<w1.heap.size→W.heap[j]?=w1.heap[j]?:=fun j h1 h2=>(hCW.block j (by omega) (HGN.out j h1)).trans (HB2.out.block j h2)
    have c1:W.cell? ⟨w.heap.size+1,0,none⟩=some (.int .i64 d):=by rw [cell_of_row _ _ _ _ _ _ ((st _ (by omega) (by omega)).trans HX11.out)];rfl
    have c2:W.cell? ⟨w.heap.size+1+1,0,none⟩=some (.int .i64 b):=by rw [cell_of_row _ _ _ _ _ _ ((st _ (by omega) (by omega)).trans HX21.out)];rfl
    have c3:W.cell? ⟨w.heap.size+1+1+1,0,none⟩=some (vfMe g1 g2):=by rw [cell_of_row _ _ _ _ _ _ ((st _ (by omega) (by omega)).trans HX31.out)];rfl
    have X4:=Ak ((st _ (by omega) (by omega)).trans HX41.out)
    obtain ⟨b0,b1,b2,b3,b4,b5,b6,b7⟩:=row8 bX
    obtain ⟨hd0,hd1⟩:=hd
    have hmz:=moreZ_in t x
    obtain ⟨hm0,hm1⟩:=hmz
    have HMZ:=Ak (show b+moreZ t x≤d+1 by omega)
    clear hA hIv hRW hCW hsp hev st bX hr hlt
    cases ev with
    | true =>
     gi_wp2
     refine ⟨trivial,?_⟩
     gi_at_call 58
     refine (CallsIn.inRound l (callsIn_wide.2 (IH.out (kidF t x) (by have:=kidF_lt t x;have:=HNN.out;omega) (q x) (d+1) (b+moreZ t x) sp W (HPK.out x) (by omega) HMZ.out HIV.out (by omega) HKD.out HRW.out))).mono ?_
     rintro e w3 ⟨rfl,hR3,hC3⟩
     rw [HEV.out] at hR3 ⊢
     have HR3:=Ak hR3
     have HC3:=Ak hC3
     clear hR3 hC3
     gi_wp2
     refine ⟨KeepsFrom.of_chg HC3.out HGL.out,⟨HC3.out.size,fun k hk hg=>HC3.out.block k (by omega) hg⟩,⟨?_,?_⟩,?_,chg_trans HCW.out HC3.out⟩
     ·rw [HSN.out]
     ·rw [HSN.out];exact HIV2.out (by simp)
     ·rw [HSN.out];exact HR3.out
    | false =>
     gi_wp2
     refine ⟨trivial,?_⟩
     gi_at_call 58
     refine (CallsIn.inRound l (callsIn_wide.2 (IH.out (kidF t x) (by have:=kidF_lt t x;have:=HNN.out;omega) (q x) (d+1) (b+moreZ t x) sp W (HPK.out x) (by omega) HMZ.out HIV.out (by omega) HKD.out HRW.out))).mono ?_
     rintro e w3 ⟨rfl,hR3,hC3⟩
     rw [HEV.out] at hR3 ⊢
     have HR3:=Ak hR3
     have HC3:=Ak hC3
     have hx4:=(hC3.block _ (by omega) (HGN.out _ (by omega))).trans X4.out
     have X43:=Ak hx4
     have c4:w3.cell? ⟨w.heap.size+1+1+1+1,0,none⟩=some (.bool false):=by (rw [cell_of_row _ _ _ _ _ _ hx4];rfl)
     have f4:=blk_frozen hx4 0
     clear hR3 hC3 hx4
     gi_wp2
     have hch:=chg_set w3 (w.heap.size+1+1+1+1) 0 (.bool false)
     have hsz3:=HC3.out.size
     refine ⟨KeepsFrom.of_chg (S:=fun k=>G k∨k=w.heap.size+1+1+1+1) (chg_trans (HC3.out.mono fun k h=>.inl h) (hch.mono fun k h=>.inr h)) (fun k h=>h.elim (fun h=>HGL.out k h) (fun h=>by omega)),⟨rfl,?_⟩,⟨?_,?_⟩,?_⟩
     ·rw [HSN.out]
     ·rw [HSN.out];exact HRP.out _ _ _ HR3.out fun k hk=>hch.block k (by have:=HGL.out k hk;omega) (fun e=>HGN.out k (by have e:k=_:=e;omega) hk)
     ·exact blk_put X43.out 0 _ rfl
     ·exact chg_trans (HCW.out.mono fun k h=>.inl h) (chg_trans (HC3.out.mono fun k h=>.inl h) (hch.mono fun k h=>.inr h))
   case done =>
    rintro D ys W hD rfl ⟨⟨hA,hIv⟩,hRW,hCW⟩ hK
    obtain ⟨sp,hsp⟩:∃ sp,runL (fun (i:Fin (nK t)) s=>foldP F (kidF t i) (d+1) (b+moreZ t i) s) (List.finRange (nK t)) s1=(true,sp):=⟨_,Prod.ext hA rfl⟩
    rw [hsp] at hRW
    have HRES:=Ak hsp
    have hszW:=hCW.size
    have hx4:=(hCW.block _ (by omega) (HGN.out _ (by omega))).trans ((HB2.out.block _ (by omega)).trans HX41.out)
    have X4:=Ak hx4
    have HRW:=Ak hRW
    have HCW:=Ak hCW
    have HKD:=Ak hK
    have c4:W.cell? ⟨w.heap.size+1+1+1+1,0,none⟩=some (.bool false):=by (rw [cell_of_row _ _ _ _ _ _ hx4];rfl)
    have f4:=blk_frozen hx4 0
    clear hA hIv hsp hRW hCW hx4 hK
    gi_wp2
    have hch:=chg_set W (w.heap.size+1+1+1+1) 0 (.bool true)
    obtain ⟨WW,hWW⟩:∃ WW,WW=W.setCell ⟨w.heap.size+1+1+1+1,0,none⟩ (.bool true):=⟨_,rfl⟩
    have hx5:WW.heap[w.heap.size+1+1+1+1]?=some (.cells #[.bool true] 4 (0,0)):=by rw [hWW];exact blk_put X4.out 0 _ rfl
    rw [← hWW] at hch ⊢
    clear hWW
    have hszV:=hch.size
    have hKW:WW.heap[D]?=some (.deferred (some [])):=(hch.block D (blk_lt HKD.out) (by omega)).trans HKD.out
    have hRWW:Rep sp WW:=HRP.out _ _ _ HRW.out fun k hk=>hch.block k (by have:=HGL.out k hk;omega) (fun e=>HGN.out k (by have e:k=_:=e;omega) hk)
    have hCWW:Chg (fun k=>G k∨w.heap.size≤k) w2 WW:=chg_trans (HCW.out.mono fun k h=>.inl h) (hch.mono fun k h=>.inr (by have h:k=_:=h;omega))
    have hgD:∀ k,G k→k≠D:=fun k hk e=>by have:=HGL.out k hk;omega
    have hp:=chg_put WW D (.deferred none)
    have hc5:(WW.putObj D (.deferred none)).cell? ⟨w.heap.size+1+1+1+1,0,none⟩=some (.bool true):=by
     rw [cell_of_row _ _ _ _ _ _ ((hp.block _ (blk_lt hx5) (by omega)).trans hx5)];rfl
    refine ⟨by simp,.inl ⟨_,_,rfl,run_takeDeferred hKW,?_⟩⟩
    refine ⟨.bool true,?_,?_⟩
    ·simp [results,Try.f58,go_sem,hc5]
    ·rw [HE.out,HRES.out]
     refine ⟨rfl,HRP.out _ _ _ hRWW (fun k hk=>hp.block k (by have:=HGL.out k hk;omega) (hgD k hk)),?_⟩
     refine chg_cut (Chg.of_below HB0.out) (HC1.out.mono fun k h=>.inl h) (chg_trans (chg_trans (Chg.of_below HB2.out) hCWW) (hp.mono fun k h=>.inr (by have h:k=D:=h;omega)))
   case stop =>
    rintro D c pre WW hD hSp ⟨⟨rfl,hA⟩,⟨hRWW,hx5⟩,hCW⟩ hKW
    obtain ⟨sp,hsp⟩:∃ sp,runL (fun (i:Fin (nK t)) s=>foldP F (kidF t i) (d+1) (b+moreZ t i) s) pre s1=(false,sp):=⟨_,Prod.ext hA rfl⟩
    have HRES:=Ak (show runL (fun (i:Fin (nK t)) s=>foldP F (kidF t i) (d+1) (b+moreZ t i) s) (List.finRange (nK t)) s1=(false,sp) by rw [runL_false _ hSp _ hA,hsp])
    rw [hsp] at hRWW
    have hszV:=hCW.size
    have hCWW:Chg (fun k=>G k∨w.heap.size≤k) w2 WW:=hCW.mono fun k h=>h.elim .inl fun h=>.inr (by omega)
    clear hA hsp hSp hCW
    gi_wp2
    have hgD:∀ k,G k→k≠D:=fun k hk e=>by have:=HGL.out k hk;omega
    have hp:=chg_put WW D (.deferred none)
    have hc5:(WW.putObj D (.deferred none)).cell? ⟨w.heap.size+1+1+1+1,0,none⟩=some (.bool false):=by
     rw [cell_of_row _ _ _ _ _ _ ((hp.block _ (blk_lt hx5) (by omega)).trans hx5)];rfl
    refine ⟨by simp,.inl ⟨_,_,rfl,run_takeDeferred hKW,?_⟩⟩
    refine ⟨.bool false,?_,?_⟩
    ·simp [results,Try.f58,go_sem,hc5]
    ·rw [HE.out,HRES.out]
     refine ⟨rfl,HRP.out _ _ _ hRWW (fun k hk=>hp.block k (by have:=HGL.out k hk;omega) (hgD k hk)),?_⟩
     refine chg_cut (Chg.of_below HB0.out) (HC1.out.mono fun k h=>.inl h) (chg_trans (chg_trans (Chg.of_below HB2.out) hCWW) (hp.mono fun k h=>.inr (by have h:k=D:=h;omega)))
end Go.Proofs.Ytdboloabpjmgaaa

namespace Go.Proofs.Ytdboloabpjmgaaa
open Go.RowKit Go.Proofs.YtdboloabpjmgaaaW.PrintWords Go.RegionInvYtdboloabpjmgaaa

def meF (_:Tm) (d _:Int) (s:Int × Int):Bool × (Int × Int):=(decide (s.1+1≤20000∧d≤2000),(s.1+1,max s.2 d))
def RepM (g1 g2:Nat) (s:Int × Int) (w:World):Prop:=NumAt w g1 s.1∧NumAt w g2 s.2
def InvM (s:Int × Int):Prop:=0≤s.1∧s.1≤20000∧0≤s.2∧s.2≤2000
def GM (g1 g2:Nat) (k:Nat):Prop:=k=g1∨k=g2
def measP (t:Tm):Int × Int:=if (foldP meF t 1 0 (0,0)).1=true then (foldP meF t 1 0 (0,0)).2 else (0,0)
theorem me_fin {w:World} {g1 g2:Nat} {n m d b mm:Int} {t:Tm} {bb:Bool} (h1:NumAt w g1 n) (h2:NumAt w g2 m) (hne:g1≠g2) (o:Obj) (hb:(decide (n+1≤20000∧d≤2000))=bb) (hm:max m d=mm) :
  FoldPost (RepM g1 g2) (GM g1 g2) w (meF t d b (n,m)) (.returned (.bool bb)) (((w.setCell ⟨g1,0,none⟩ (.int .i64 (n+1))).setCell ⟨g2,0,none⟩ (.int .i64 mm)).alloc o):=by
 subst hb;subst hm
 have c1:=chg_set w g1 0 (.int .i64 (n+1))
 have k2:NumAt (w.setCell ⟨g1,0,none⟩ (.int .i64 (n+1))) g2 m:=(c1.block g2 (blk_lt h2) (fun e=>hne e.symm)).trans h2
 have c2:=chg_set (w.setCell ⟨g1,0,none⟩ (.int .i64 (n+1))) g2 0 (.int .i64 (max m d))
 refine ⟨rfl,⟨NumAt.alloc (((c2.block g1 (blk_lt (h1.set (n+1))) hne).trans (h1.set (n+1)):NumAt _ g1 (n+1))) o,(k2.set _).alloc o⟩,?_⟩
 exact chg_trans (chg_trans (c1.mono fun k h=>.inl h) (c2.mono fun k h=>.inr h)) (chg_alloc _ _ _)
set_option maxHeartbeats 2000000 in
theorem me1_calls (t:Tm) (p:Pl) (d b:Int) (s:Int × Int) (w:World) (g1 g2:Nat) (hne:g1≠g2) (_hd0:0≤d) (_hd1:d≤2001) (hI:InvM s) (hR:RepM g1 g2 s w) :
  Calls Try.prog 95 #[tmV p t,.int .i64 d,.int .i64 b,.pointer (some ⟨g1,0,none⟩),.pointer (some ⟨g2,0,none⟩)] w (FoldPost (RepM g1 g2) (GM g1 g2) w (meF t d b s)):=by
 obtain ⟨n,m⟩:=s
 obtain ⟨h1,h2⟩:=hR
 obtain ⟨i1,i2,i3,i4⟩:=hI
 simp only at h1 h2 i1 i2 i3 i4
 have c1:=h1.cell
 have c2:=h2.cell
 have f1:=blk_frozen h1 0
 have f2:=blk_frozen h2 0
 have hz1:=blk_lt h1
 have hz2:=blk_lt h2
 have H1:=Ak h1
 have H2:=Ak h2
 have hne':g2≠g1:=fun e=>hne e.symm
 clear h1 h2
 unfold tmV
 go_enter Try.func95,Try.ntmps95
 go_wp2
 all_goals go_ret
 all_goals exact me_fin H1.out H2.out hne _ (by by_cases hx:d≤2000 <;> simp [hx] <;> omega) (by omega)
theorem meF_ok {t:Tm} {d b:Int} {s:Int × Int} (hd:0≤d∧d≤2001) (hI:InvM s) (h:(meF t d b s).1=true):InvM (meF t d b s).2∧∀ _:Fin (nK t),0≤d+1∧d+1≤2001:=by
 have h:=of_decide_eq_true h
 obtain ⟨i1,i2,i3,i4⟩:=hI
 unfold InvM meF
 simp only
 exact ⟨by omega,fun _=>by omega⟩
theorem foldMe_calls (t:Tm) (p:Pl) (B g1 g2:Nat) (w:World) (hne:g1≠g2) (h1:B≤g1) (h2:B≤g2) (hin:TmIn w B p t) (hn1:NumAt w g1 0) (hn2:NumAt w g2 0) :
  Calls Try.prog 58 #[tmV p t,.int .i64 1,.int .i64 0,vfMe g1 g2] w (FoldPost (RepM g1 g2) (GM g1 g2) w (foldP meF t 1 0 (0,0))):=
 fold_Me meF (RepM g1 g2) InvM (fun _ d=>0≤d∧d≤2001) (GM g1 g2) B (max g1 g2+1) g1 g2 (fun k h=>by rcases h with rfl | rfl <;> omega) (by omega)
  (fun s W W' h hs=>⟨(hs g1 (.inl rfl)).trans h.1,(hs g2 (.inr rfl)).trans h.2⟩)
  (fun t p d b s w hP _ _ hI _ _ hR=>me1_calls t p d b s w g1 g2 hne hP.1 hP.2 hI hR)
  (fun t d b s hP hI h=>meF_ok hP hI h) (fun t d h=>by omega) _ t (Nat.lt_succ_self _) p 1 0 (0,0) w (by omega) (by omega) (by omega) ⟨by decide,by decide,by decide,by decide⟩ (by have:=blk_lt hn1;have:=blk_lt hn2;omega) hin ⟨hn1,hn2⟩
set_option maxHeartbeats 4000000 in
theorem measure_calls (t:Tm) (p:Pl) (w:World) (hin:TmIn w w.heap.size p t) :
  Calls Try.prog 57 #[tmV p t] w fun e w'=>e=.returned (.tuple #[.int .i64 (measP t).1,.int .i64 (measP t).2])∧Below w.heap.size w w':=by
 have HIN:=Ak hin
 obtain ⟨W,hW⟩:∃ W,W=((w.alloc (tmO p t)).alloc (.cells #[.int .i64 0] 3 (0,0))).alloc (.cells #[.int .i64 0] 3 (0,0)):=⟨_,rfl⟩
 have hb:Below w.heap.size w W:=by rw [hW];exact below_alloc (below_alloc (below_alloc (Below.refl _ _) _) _) _
 have HX:=Ak (show W.heap[w.heap.size]?=some (tmO p t) by rw [hW];exact blk_alloc (box0 w _ _) _)
 have HN1:=Ak (show NumAt W (w.heap.size+1) 0 by rw [hW];exact blk_alloc (box1 w _ _) _)
 have HN2:=Ak (show NumAt W (w.heap.size+1+1) 0 by rw [hW];have:=blk_new ((w.alloc (tmO p t)).alloc (.cells #[.int .i64 0] 3 (0,0))) (.cells #[.int .i64 0] 3 (0,0));simpa [NumAt] using this)
 have HB:=Ak hb
 clear hin hb
 unfold tmV
 go_enter Try.func57,Try.ntmps57
 go_upto_region 2 with (fail)
 rw [← hW]
 clear hW
 obtain ⟨c0,c1,c2,c3,c4,c5,c6,c7⟩:=row8 HX.out
 obtain ⟨ev,s2,hev⟩:∃ ev s2,foldP meF t 1 0 (0,0)=(ev,s2):=⟨_,_,rfl⟩
 have HEV:=Ak hev
 cases ev with
 | true =>
  have HM:=Ak (show measP t=s2 by unfold measP;rw [hev];rfl)
  clear hev
  go_upto_region 4 with (first
   | (go_at_call 58;go_must (refine (foldMe_calls t p w.heap.size (w.heap.size+1) (w.heap.size+1+1) W (by omega) (by omega) (by omega) (HIN.out.stay HB.out) HN1.out HN2.out).mono ?_;rintro e w2 ⟨rfl,hR,hC⟩;rw [HEV.out] at hR ⊢;have HR:=Ak hR;have HB2:=Ak (Chg.trans_below HB.out hC (fun k h=>by rcases h with rfl | rfl <;> omega) HB.out.size);clear hR hC)))
  have r1:=HR.out.1.cell
  have r2:=HR.out.2.cell
  go_region_law (fail)
  all_goals go_wp2
  all_goals go_ret2
  all_goals (rw [HM.out];refine ⟨rfl,?_⟩;repeat' first | exact HB2.out | apply below_drew)
 | false =>
  have HM:=Ak (show measP t=(0,0) by unfold measP;rw [hev];rfl)
  clear hev
  go_wp2_with (first
   | (go_at_call 58;go_must (refine (foldMe_calls t p w.heap.size (w.heap.size+1) (w.heap.size+1+1) W (by omega) (by omega) (by omega) (HIN.out.stay HB.out) HN1.out HN2.out).mono ?_;rintro e w2 ⟨rfl,hR,hC⟩;rw [HEV.out] at hR ⊢;have HB2:=Ak (Chg.trans_below HB.out hC (fun k h=>by rcases h with rfl | rfl <;> omega) HB.out.size);clear hR hC)))
  go_ret2
  rw [HM.out]
  exact ⟨rfl,HB2.out⟩
end Go.Proofs.Ytdboloabpjmgaaa

namespace Go.Proofs.Ytdboloabpjmgaaa
open Go.RowKit Go.Proofs.YtdboloabpjmgaaaW.PrintWords Go.RegionInvYtdboloabpjmgaaa

def greatB (t:Tm):Bool:=(measP t).1 == 0
set_option maxHeartbeats 2000000 in
theorem great_calls (t:Tm) (p:Pl) (w:World) (hin:TmIn w w.heap.size p t):Calls Try.prog 55 #[tmV p t] w fun e w'=>e=.returned (.bool (greatB t))∧Below w.heap.size w w':=by
 have HIN:=Ak hin
 have HX:=Ak (show (w.alloc (tmO p t)).heap[w.heap.size]?=some (tmO p t) from blk_new _ _)
 have HB:=Ak (show Below w.heap.size w (w.alloc (tmO p t)) from below_alloc (Below.refl _ _) _)
 clear hin
 unfold tmV
 go_enter Try.func55,Try.ntmps55
 go_wp2_with (first
  | (go_at_call 57;go_must (refine (measure_calls t p _ (TmS.all (HIN.out.stay HB.out))).mono ?_;rintro e w2 ⟨rfl,hb⟩;have HB2:=Ak (below_then HB.out HB.out.size hb);clear hb)))
 go_ret
 exact ⟨rfl,HB2.out⟩
end Go.Proofs.Ytdboloabpjmgaaa

namespace Go.Proofs.Ytdboloabpjmgaaa
open Go.RowKit Go.Proofs.YtdboloabpjmgaaaW.PrintWords Go.RegionInvYtdboloabpjmgaaa Go.RegionEYtdboloabpjmgaaa
set_option linter.unusedVariables false

def lf1_ops:List Oper:=[
 { dst:=some 3,op:=Go.Op.fieldAddr 28 (Go.Operand.tmp 1) 0,type:=0,pos:= "term.go:53",after:=#[],guard:=none },
 { dst:=some 4,op:=Go.Op.load 3 (Go.Operand.tmp 3),type:=3,pos:= "term.go:53",after:=#[{ on:=0,ground:=Go.Ground.data }],guard:=none },
 { dst:=some 5,op:=Go.Op.call { callee:=Go.Callee.value (Go.Operand.func 104),args:=#[Go.Operand.tmp 4],argTypes:=#[3] },type:=3,pos:= "term.go:53",after:=#[{ on:=1,ground:=Go.Ground.data }],guard:=none },
 { dst:=some 6,op:=Go.Op.binOp Go.BinOp.lss 3 (Go.Operand.tmp 5) (Go.Operand.const (Go.Value.int Go.IntKind.i64 1)) 3,type:=4,pos:= "term.go:53",after:=#[{ on:=2,ground:=Go.Ground.data }],guard:=none },
 { dst:=some 7,op:=Go.Op.move (Go.Operand.tmp 6),type:=4,pos:= "term.go:53",after:=#[{ on:=3,ground:=Go.Ground.data },{ on:=2,ground:=Go.Ground.chain }],guard:=none },
 { dst:=some 8,op:=Go.Op.fieldAddr 28 (Go.Operand.tmp 1) 5,type:=0,pos:= "term.go:53",after:=#[{ on:=4,ground:=Go.Ground.guard }],guard:=some (4,false) },
 { dst:=some 9,op:=Go.Op.load 26 (Go.Operand.tmp 8),type:=26,pos:= "term.go:53",after:=#[{ on:=5,ground:=Go.Ground.data },{ on:=4,ground:=Go.Ground.guard }],guard:=some (4,false) },
 { dst:=some 10,op:=Go.Op.call { callee:=Go.Callee.builtin Go.Builtin.len,args:=#[Go.Operand.tmp 9],argTypes:=#[26] },type:=3,pos:= "term.go:53",after:=#[{ on:=6,ground:=Go.Ground.data },{ on:=4,ground:=Go.Ground.guard }],guard:=some (4,false) },
 { dst:=some 11,op:=Go.Op.fieldAddr 28 (Go.Operand.tmp 1) 0,type:=0,pos:= "term.go:53",after:=#[{ on:=4,ground:=Go.Ground.guard }],guard:=some (4,false) },
 { dst:=some 12,op:=Go.Op.load 3 (Go.Operand.tmp 11),type:=3,pos:= "term.go:53",after:=#[{ on:=8,ground:=Go.Ground.data },{ on:=4,ground:=Go.Ground.guard }],guard:=some (4,false) },
 { dst:=some 13,op:=Go.Op.call { callee:=Go.Callee.value (Go.Operand.func 104),args:=#[Go.Operand.tmp 12],argTypes:=#[3] },type:=3,pos:= "term.go:53",after:=#[{ on:=9,ground:=Go.Ground.data },{ on:=4,ground:=Go.Ground.chain },{ on:=4,ground:=Go.Ground.guard }],guard:=some (4,false) },
 { dst:=some 14,op:=Go.Op.binOp Go.BinOp.lss 3 (Go.Operand.tmp 10) (Go.Operand.tmp 13) 3,type:=4,pos:= "term.go:53",after:=#[{ on:=7,ground:=Go.Ground.data },{ on:=10,ground:=Go.Ground.data },{ on:=4,ground:=Go.Ground.guard }],guard:=some (4,false) },
 { dst:=some 15,op:=Go.Op.pick (Go.Operand.tmp 7) (Go.Operand.const (Go.Value.bool true)) (Go.Operand.tmp 14),type:=4,pos:= "term.go:53",after:=#[{ on:=4,ground:=Go.Ground.data },{ on:=11,ground:=Go.Ground.data }],guard:=none },
 { dst:=some 2,op:=Go.Op.assign (Go.Operand.tmp 15),type:=4,pos:= "term.go:53",after:=#[{ on:=12,ground:=Go.Ground.data },{ on:=10,ground:=Go.Ground.chain },{ on:=0,ground:=Go.Ground.phase },{ on:=1,ground:=Go.Ground.phase },{ on:=2,ground:=Go.Ground.phase },{ on:=3,ground:=Go.Ground.phase },{ on:=4,ground:=Go.Ground.phase },{ on:=5,ground:=Go.Ground.phase },{ on:=6,ground:=Go.Ground.phase },{ on:=7,ground:=Go.Ground.phase },{ on:=8,ground:=Go.Ground.phase },{ on:=9,ground:=Go.Ground.phase },{ on:=10,ground:=Go.Ground.phase },{ on:=11,ground:=Go.Ground.phase },{ on:=12,ground:=Go.Ground.phase }],guard:=none }]
def lf1_F (w0:World) (b:Nat) (p:Pl) (t:Tm) (ar:Int):Nat→(Nat→Value)→Value→World→(Nat→Prop)→Prop:=fun rix=>match rix with
 | 0=>fun _ v _ _=>v=.pointer (some ⟨b,0,none⟩)
 | 1=>fun _ v _ _=>v=.int .i64 t.kind
 | 2=>fun _ v _ _=>v=.int .i64 ar
 | 3=>fun _ v _ _=>v=.bool true
 | 4=>fun _ v _ _=>v=.bool true
 | 5=>fun _ v _ _=>v=undef
 | 6=>fun _ v _ _=>v=undef
 | 7=>fun _ v _ _=>v=undef
 | 8=>fun _ v _ _=>v=undef
 | 9=>fun _ v _ _=>v=undef
 | 10=>fun _ v _ _=>v=undef
 | 11=>fun _ v _ _=>v=undef
 | 12=>fun _ v _ _=>v=.bool true
 | 13=>fun _ v _ _=>v=.bool true
 | _=>fun _ _ _ _=>True
def lf1_C:Nat→List Nat:=fun rix=>match rix with
 | _=>[]
theorem lf1_nw1:nwB lf1_ops.toArray 1=true:=by kernel_rfl
set_option maxRecDepth 100000 in
set_option maxHeartbeats 8000000 in
theorem lf1_obs (w0:World) (b:Nat) (p:Pl) (t:Tm) (ar:Int) (hx:w0.heap[b]?=some (tmO p t)) (har:arZ t.kind=ar) (ha:decide (ar<1)=true) (Q:Exit→Act→World→Prop) (a0:Act) (hi1:a0.tmps.getD 1 undef=.pointer (some ⟨b,0,none⟩)) :
  ObsE Try.prog lf1_ops.toArray Q (est2 0 0 (fun _=>False) (fun _=>False)) lf1_C (lf1_F w0 b p t ar) a0 w0 lf1_ops.toArray.toList 0:=by
 have nw1:=lf1_nw1
 refine ⟨?_,?_,?_,?_,?_,?_,?_,?_,?_,?_,?_,?_,?_,?_,trivial⟩
 ·refine ⟨⟨fun τ=>stableE_det _,leans_not⟩,?_⟩
  intro a w O hk
  have e1:a.eval (.tmp 1)=.pointer (some ⟨b,0,none⟩):=(hk.init 1 (initialB_of_nw nw1)).trans hi1
  exact obE_run (wanted_none rfl) (by unfold execOp;simp only [];rw [e1];go_simp) rfl
 ·refine ⟨⟨fun τ=>stableE_det _,leans_not⟩,?_⟩
  intro a w O hk
  have e3:a.eval (.tmp 3)=.pointer (some ⟨b,0,none⟩):=hk.fact 0 _ 3 rfl rfl rfl rfl
  have x1:=hk.world.still hx (fun ⟨_,h⟩=>h.elim And.right And.right)
  obtain ⟨p0,p1,p2,p3,p4,p5,p6,p7⟩:=row8 x1
  exact obE_run (wanted_none rfl) (by unfold execOp;simp only [];rw [e3];go_simp) rfl
 ·refine ⟨⟨fun τ=>stableE_det _,leans_not⟩,?_⟩
  intro a w O hk
  have e4:a.eval (.tmp 4)=.int .i64 t.kind:=hk.fact 1 _ 4 rfl rfl rfl rfl
  have x1:=hk.world.still hx (fun ⟨_,h⟩=>h.elim And.right And.right)
  obtain ⟨p0,p1,p2,p3,p4,p5,p6,p7⟩:=row8 x1
  exact obE_callV #[.int .i64 t.kind] rfl rfl rfl rfl (by simp only [List.map_cons,List.map_nil];rw [e4]) (wanted_none rfl) ((tar_calls t.kind w).mono fun e w' h=>⟨by rw [h.1,har],h.2 ▸ Below.refl _ _⟩)
 ·refine ⟨⟨fun τ=>stableE_det _,leans_not⟩,?_⟩
  intro a w O hk
  have e5:a.eval (.tmp 5)=.int .i64 ar:=hk.fact 2 _ 5 rfl rfl rfl rfl
  have x1:=hk.world.still hx (fun ⟨_,h⟩=>h.elim And.right And.right)
  obtain ⟨p0,p1,p2,p3,p4,p5,p6,p7⟩:=row8 x1
  exact toE (ob_bin rfl e5 rfl (run_lssB _ _ true ha) (by decide) (wanted_none rfl) rfl)
 ·refine ⟨⟨fun τ=>stableE_det _,leans_not⟩,?_⟩
  intro a w O hk
  have e6:a.eval (.tmp 6)=.bool true:=hk.fact 3 _ 6 rfl rfl rfl rfl
  exact toE (ob_move rfl e6 (wanted_none rfl) rfl)
 ·refine ⟨⟨fun τ=>stableE_det _,leans_not⟩,?_⟩
  intro a w O hk
  have e1:a.eval (.tmp 1)=.pointer (some ⟨b,0,none⟩):=(hk.init 1 (initialB_of_nw nw1)).trans hi1
  have e7:a.eval (.tmp 7)=.bool true:=hk.fact 4 _ 7 rfl rfl rfl rfl
  exact toE (ob_skip (unwanted_of rfl rfl rfl e7 (by decide)) rfl)
 ·refine ⟨⟨fun τ=>stableE_det _,leans_not⟩,?_⟩
  intro a w O hk
  have e8:a.eval (.tmp 8)=undef:=hk.fact 5 _ 8 rfl rfl rfl rfl
  have e7:a.eval (.tmp 7)=.bool true:=hk.fact 4 _ 7 rfl rfl rfl rfl
  exact toE (ob_skip (unwanted_of rfl rfl rfl e7 (by decide)) rfl)
 ·refine ⟨⟨fun τ=>stableE_det _,leans_not⟩,?_⟩
  intro a w O hk
  have e9:a.eval (.tmp 9)=undef:=hk.fact 6 _ 9 rfl rfl rfl rfl
  have e7:a.eval (.tmp 7)=.bool true:=hk.fact 4 _ 7 rfl rfl rfl rfl
  exact toE (ob_skip (unwanted_of rfl rfl rfl e7 (by decide)) rfl)
 ·refine ⟨⟨fun τ=>stableE_det _,leans_not⟩,?_⟩
  intro a w O hk
  have e1:a.eval (.tmp 1)=.pointer (some ⟨b,0,none⟩):=(hk.init 1 (initialB_of_nw nw1)).trans hi1
  have e7:a.eval (.tmp 7)=.bool true:=hk.fact 4 _ 7 rfl rfl rfl rfl
  exact toE (ob_skip (unwanted_of rfl rfl rfl e7 (by decide)) rfl)
 ·refine ⟨⟨fun τ=>stableE_det _,leans_not⟩,?_⟩
  intro a w O hk
  have e11:a.eval (.tmp 11)=undef:=hk.fact 8 _ 11 rfl rfl rfl rfl
  have e7:a.eval (.tmp 7)=.bool true:=hk.fact 4 _ 7 rfl rfl rfl rfl
  exact toE (ob_skip (unwanted_of rfl rfl rfl e7 (by decide)) rfl)
 ·refine ⟨⟨fun τ=>stableE_det _,leans_not⟩,?_⟩
  intro a w O hk
  have e12:a.eval (.tmp 12)=undef:=hk.fact 9 _ 12 rfl rfl rfl rfl
  have e7:a.eval (.tmp 7)=.bool true:=hk.fact 4 _ 7 rfl rfl rfl rfl
  exact toE (ob_skip (unwanted_of rfl rfl rfl e7 (by decide)) rfl)
 ·refine ⟨⟨fun τ=>stableE_det _,leans_not⟩,?_⟩
  intro a w O hk
  have e10:a.eval (.tmp 10)=undef:=hk.fact 7 _ 10 rfl rfl rfl rfl
  have e13:a.eval (.tmp 13)=undef:=hk.fact 10 _ 13 rfl rfl rfl rfl
  have e7:a.eval (.tmp 7)=.bool true:=hk.fact 4 _ 7 rfl rfl rfl rfl
  exact toE (ob_skip (unwanted_of rfl rfl rfl e7 (by decide)) rfl)
 ·refine ⟨⟨fun τ=>stableE_det _,leans_not⟩,?_⟩
  intro a w O hk
  have e7:a.eval (.tmp 7)=.bool true:=hk.fact 4 _ 7 rfl rfl rfl rfl
  have e14:a.eval (.tmp 14)=undef:=hk.fact 11 _ 14 rfl rfl rfl rfl
  exact toE (ob_pick rfl e7 rfl (wanted_none rfl) rfl)
 ·refine ⟨⟨fun τ=>stableE_det _,leans_not⟩,?_⟩
  intro a w O hk
  have e15:a.eval (.tmp 15)=.bool true:=hk.fact 12 _ 15 rfl rfl rfl rfl
  exact toE (ob_assign rfl e15 (wanted_none rfl) rfl)
set_option maxRecDepth 100000 in
set_option maxHeartbeats 8000000 in
theorem lf1_region {Q:Exit→Act→World→Prop} {id:Nat} (w0:World) (b:Nat) (p:Pl) (t:Tm) (ar:Int) {s0 s2 s3 s4 s5 s6 s7 s8 s9 s10 s11 s12 s13 s14 s15:Value} (hx:w0.heap[b]?=some (tmO p t)) (har:arZ t.kind=ar) (ha:decide (ar<1)=true)
  (hend:∀ (w':World),Chg (fun k=>False∨False) w0 w'→Q .normal { tmps:=(s0 :: (.pointer (some ⟨b,0,none⟩)) :: (.bool true) :: (.pointer (some ⟨b,0,none⟩)) :: (.int .i64 t.kind) :: (.int .i64 ar) :: (.bool true) :: (.bool true) :: undef :: undef :: undef :: undef :: undef :: undef :: undef :: (.bool true) :: []:List Value).toArray,defers:=[] } w') :
  (Code.region id lf1_ops.toArray true).wp Try.prog Q { tmps:=(s0 :: (.pointer (some ⟨b,0,none⟩)) :: s2 :: s3 :: s4 :: s5 :: s6 :: s7 :: s8 :: s9 :: s10 :: s11 :: s12 :: s13 :: s14 :: s15 :: []:List Value).toArray,defers:=[] } w0:=by
 refine wp_region_est (by kernel_rfl) (est2 0 0 (fun _=>False) (fun _=>False)) lf1_C (lf1_F w0 b p t ar) (est2_dis (fun _ h _=>h)) (est2_range (fun _ h=>h.elim) (fun _ h=>h.elim)) (by rfl) (by kernel_rfl) (lf1_obs w0.drew b p t ar hx har ha _ _ rfl) ?_
 intro a w' O hd hs hb hf hf2 ha hsame
 have hl:=slots_eq (ops:=lf1_ops.toArray) [(2,.bool true),(3,.pointer (some ⟨b,0,none⟩)),(4,.int .i64 t.kind),(5,.int .i64 ar),(6,.bool true),(7,.bool true),(8,undef),(9,undef),(10,undef),(11,undef),(12,undef),(13,undef),(14,undef),(15,.bool true)] (show a.tmps.size=16 from hs) (fun i h=>hsame i h) ⟨(hf 13 _ 2 rfl rfl (by decide)).1,(hf 0 _ 3 rfl rfl (by decide)).1,(hf 1 _ 4 rfl rfl (by decide)).1,(hf 2 _ 5 rfl rfl (by decide)).1,(hf 3 _ 6 rfl rfl (by decide)).1,(hf 4 _ 7 rfl rfl (by decide)).1,(hf 5 _ 8 rfl rfl (by decide)).1,(hf 6 _ 9 rfl rfl (by decide)).1,(hf 7 _ 10 rfl rfl (by decide)).1,(hf 8 _ 11 rfl rfl (by decide)).1,(hf 9 _ 12 rfl rfl (by decide)).1,(hf 10 _ 13 rfl rfl (by decide)).1,(hf 11 _ 14 rfl rfl (by decide)).1,(hf 12 _ 15 rfl rfl (by decide)).1,trivial⟩ (by kernel_rfl)
 obtain ⟨tmps,defers⟩:=a
 obtain rfl:defers=[]:=hd
 have hl':tmps=_:=hl
 rw [hl']
 have hb':=est2_chg hb
 refine Eq.mp ?_ (hend w' ⟨hb'.os,hb'.tape,hb'.output,hb'.size,hb'.block⟩)
 kernel_rfl

def lf0_F (w0:World) (b:Nat) (p:Pl) (t:Tm) (ar:Int) (d:Bool):Nat→(Nat→Value)→Value→World→(Nat→Prop)→Prop:=fun rix=>match rix with
 | 0=>fun _ v _ _=>v=.pointer (some ⟨b,0,none⟩)
 | 1=>fun _ v _ _=>v=.int .i64 t.kind
 | 2=>fun _ v _ _=>v=.int .i64 ar
 | 3=>fun _ v _ _=>v=.bool false
 | 4=>fun _ v _ _=>v=.bool false
 | 5=>fun _ v _ _=>v=.pointer (some ⟨b,7,none⟩)
 | 6=>fun _ v _ _=>v=.slice p.K t.kids.length p.e
 | 7=>fun _ v _ _=>v=.int .i64 t.kids.length
 | 8=>fun _ v _ _=>v=.pointer (some ⟨b,0,none⟩)
 | 9=>fun _ v _ _=>v=.int .i64 t.kind
 | 10=>fun _ v _ _=>v=.int .i64 ar
 | 11=>fun _ v _ _=>v=.bool d
 | 12=>fun _ v _ _=>v=.bool d
 | 13=>fun _ v _ _=>v=.bool d
 | _=>fun _ _ _ _=>True
def lf0_C:Nat→List Nat:=fun rix=>match rix with
 | _=>[]
theorem lf0_nw1:nwB lf1_ops.toArray 1=true:=by kernel_rfl
set_option maxRecDepth 100000 in
set_option maxHeartbeats 8000000 in
theorem lf0_obs (w0:World) (b:Nat) (p:Pl) (t:Tm) (ar:Int) (d:Bool) (hx:w0.heap[b]?=some (tmO p t)) (har:arZ t.kind=ar) (ha:decide (ar<1)=false) (hd:decide ((t.kids.length:Int)<ar)=d) (Q:Exit→Act→World→Prop) (a0:Act) (hi1:a0.tmps.getD 1 undef=.pointer (some ⟨b,0,none⟩)) :
  ObsE Try.prog lf1_ops.toArray Q (est2 0 0 (fun _=>False) (fun _=>False)) lf0_C (lf0_F w0 b p t ar d) a0 w0 lf1_ops.toArray.toList 0:=by
 have nw1:=lf0_nw1
 refine ⟨?_,?_,?_,?_,?_,?_,?_,?_,?_,?_,?_,?_,?_,?_,trivial⟩
 ·refine ⟨⟨fun τ=>stableE_det _,leans_not⟩,?_⟩
  intro a w O hk
  have e1:a.eval (.tmp 1)=.pointer (some ⟨b,0,none⟩):=(hk.init 1 (initialB_of_nw nw1)).trans hi1
  exact obE_run (wanted_none rfl) (by unfold execOp;simp only [];rw [e1];go_simp) rfl
 ·refine ⟨⟨fun τ=>stableE_det _,leans_not⟩,?_⟩
  intro a w O hk
  have e3:a.eval (.tmp 3)=.pointer (some ⟨b,0,none⟩):=hk.fact 0 _ 3 rfl rfl rfl rfl
  have x1:=hk.world.still hx (fun ⟨_,h⟩=>h.elim And.right And.right)
  obtain ⟨p0,p1,p2,p3,p4,p5,p6,p7⟩:=row8 x1
  exact obE_run (wanted_none rfl) (by unfold execOp;simp only [];rw [e3];go_simp) rfl
 ·refine ⟨⟨fun τ=>stableE_det _,leans_not⟩,?_⟩
  intro a w O hk
  have e4:a.eval (.tmp 4)=.int .i64 t.kind:=hk.fact 1 _ 4 rfl rfl rfl rfl
  have x1:=hk.world.still hx (fun ⟨_,h⟩=>h.elim And.right And.right)
  obtain ⟨p0,p1,p2,p3,p4,p5,p6,p7⟩:=row8 x1
  exact obE_callV #[.int .i64 t.kind] rfl rfl rfl rfl (by simp only [List.map_cons,List.map_nil];rw [e4]) (wanted_none rfl) ((tar_calls t.kind w).mono fun e w' h=>⟨by rw [h.1,har],h.2 ▸ Below.refl _ _⟩)
 ·refine ⟨⟨fun τ=>stableE_det _,leans_not⟩,?_⟩
  intro a w O hk
  have e5:a.eval (.tmp 5)=.int .i64 ar:=hk.fact 2 _ 5 rfl rfl rfl rfl
  have x1:=hk.world.still hx (fun ⟨_,h⟩=>h.elim And.right And.right)
  obtain ⟨p0,p1,p2,p3,p4,p5,p6,p7⟩:=row8 x1
  exact toE (ob_bin rfl e5 rfl (run_lssB _ _ false ha) (by decide) (wanted_none rfl) rfl)
 ·refine ⟨⟨fun τ=>stableE_det _,leans_not⟩,?_⟩
  intro a w O hk
  have e6:a.eval (.tmp 6)=.bool false:=hk.fact 3 _ 6 rfl rfl rfl rfl
  exact toE (ob_move rfl e6 (wanted_none rfl) rfl)
 ·refine ⟨⟨fun τ=>stableE_det _,leans_not⟩,?_⟩
  intro a w O hk
  have e1:a.eval (.tmp 1)=.pointer (some ⟨b,0,none⟩):=(hk.init 1 (initialB_of_nw nw1)).trans hi1
  have e7:a.eval (.tmp 7)=.bool false:=hk.fact 4 _ 7 rfl rfl rfl rfl
  have x1:=hk.world.still hx (fun ⟨_,h⟩=>h.elim And.right And.right)
  obtain ⟨p0,p1,p2,p3,p4,p5,p6,p7⟩:=row8 x1
  exact obE_run (wanted_of rfl rfl rfl e7) (by unfold execOp;simp only [];rw [e1];go_simp) rfl
 ·refine ⟨⟨fun τ=>stableE_det _,leans_not⟩,?_⟩
  intro a w O hk
  have e8:a.eval (.tmp 8)=.pointer (some ⟨b,7,none⟩):=hk.fact 5 _ 8 rfl rfl rfl rfl
  have e7:a.eval (.tmp 7)=.bool false:=hk.fact 4 _ 7 rfl rfl rfl rfl
  have x1:=hk.world.still hx (fun ⟨_,h⟩=>h.elim And.right And.right)
  obtain ⟨p0,p1,p2,p3,p4,p5,p6,p7⟩:=row8 x1
  exact obE_run (wanted_of rfl rfl rfl e7) (by unfold execOp;simp only [];rw [e8];go_simp) rfl
 ·refine ⟨⟨fun τ=>stableE_det _,leans_not⟩,?_⟩
  intro a w O hk
  have e9:a.eval (.tmp 9)=.slice p.K t.kids.length p.e:=hk.fact 6 _ 9 rfl rfl rfl rfl
  have e7:a.eval (.tmp 7)=.bool false:=hk.fact 4 _ 7 rfl rfl rfl rfl
  exact toE (ob_len rfl e9 Try.underlying26 (wanted_of rfl rfl rfl e7) rfl)
 ·refine ⟨⟨fun τ=>stableE_det _,leans_not⟩,?_⟩
  intro a w O hk
  have e1:a.eval (.tmp 1)=.pointer (some ⟨b,0,none⟩):=(hk.init 1 (initialB_of_nw nw1)).trans hi1
  have e7:a.eval (.tmp 7)=.bool false:=hk.fact 4 _ 7 rfl rfl rfl rfl
  exact obE_run (wanted_of rfl rfl rfl e7) (by unfold execOp;simp only [];rw [e1];go_simp) rfl
 ·refine ⟨⟨fun τ=>stableE_det _,leans_not⟩,?_⟩
  intro a w O hk
  have e11:a.eval (.tmp 11)=.pointer (some ⟨b,0,none⟩):=hk.fact 8 _ 11 rfl rfl rfl rfl
  have e7:a.eval (.tmp 7)=.bool false:=hk.fact 4 _ 7 rfl rfl rfl rfl
  have x1:=hk.world.still hx (fun ⟨_,h⟩=>h.elim And.right And.right)
  obtain ⟨p0,p1,p2,p3,p4,p5,p6,p7⟩:=row8 x1
  exact obE_run (wanted_of rfl rfl rfl e7) (by unfold execOp;simp only [];rw [e11];go_simp) rfl
 ·refine ⟨⟨fun τ=>stableE_det _,leans_not⟩,?_⟩
  intro a w O hk
  have e12:a.eval (.tmp 12)=.int .i64 t.kind:=hk.fact 9 _ 12 rfl rfl rfl rfl
  have e7:a.eval (.tmp 7)=.bool false:=hk.fact 4 _ 7 rfl rfl rfl rfl
  have x1:=hk.world.still hx (fun ⟨_,h⟩=>h.elim And.right And.right)
  obtain ⟨p0,p1,p2,p3,p4,p5,p6,p7⟩:=row8 x1
  exact obE_callV #[.int .i64 t.kind] rfl rfl rfl rfl (by simp only [List.map_cons,List.map_nil];rw [e12]) (wanted_of rfl rfl rfl e7) ((tar_calls t.kind w).mono fun e w' h=>⟨by rw [h.1,har],h.2 ▸ Below.refl _ _⟩)
 ·refine ⟨⟨fun τ=>stableE_det _,leans_not⟩,?_⟩
  intro a w O hk
  have e10:a.eval (.tmp 10)=.int .i64 t.kids.length:=hk.fact 7 _ 10 rfl rfl rfl rfl
  have e13:a.eval (.tmp 13)=.int .i64 ar:=hk.fact 10 _ 13 rfl rfl rfl rfl
  have e7:a.eval (.tmp 7)=.bool false:=hk.fact 4 _ 7 rfl rfl rfl rfl
  have x1:=hk.world.still hx (fun ⟨_,h⟩=>h.elim And.right And.right)
  obtain ⟨p0,p1,p2,p3,p4,p5,p6,p7⟩:=row8 x1
  exact toE (ob_bin rfl e10 e13 (run_lssB _ _ d hd) (by decide) (wanted_of rfl rfl rfl e7) rfl)
 ·refine ⟨⟨fun τ=>stableE_det _,leans_not⟩,?_⟩
  intro a w O hk
  have e7:a.eval (.tmp 7)=.bool false:=hk.fact 4 _ 7 rfl rfl rfl rfl
  have e14:a.eval (.tmp 14)=.bool d:=hk.fact 11 _ 14 rfl rfl rfl rfl
  exact toE (ob_pick rfl e7 e14 (wanted_none rfl) rfl)
 ·refine ⟨⟨fun τ=>stableE_det _,leans_not⟩,?_⟩
  intro a w O hk
  have e15:a.eval (.tmp 15)=.bool d:=hk.fact 12 _ 15 rfl rfl rfl rfl
  exact toE (ob_assign rfl e15 (wanted_none rfl) rfl)
set_option maxRecDepth 100000 in
set_option maxHeartbeats 8000000 in
theorem lf0_region {Q:Exit→Act→World→Prop} {id:Nat} (w0:World) (b:Nat) (p:Pl) (t:Tm) (ar:Int) (d:Bool) {s0 s2 s3 s4 s5 s6 s7 s8 s9 s10 s11 s12 s13 s14 s15:Value} (hx:w0.heap[b]?=some (tmO p t)) (har:arZ t.kind=ar) (ha:decide (ar<1)=false) (hd:decide ((t.kids.length:Int)<ar)=d)
  (hend:∀ (w':World),Chg (fun k=>False∨False) w0 w'→Q .normal { tmps:=(s0 :: (.pointer (some ⟨b,0,none⟩)) :: (.bool d) :: (.pointer (some ⟨b,0,none⟩)) :: (.int .i64 t.kind) :: (.int .i64 ar) :: (.bool false) :: (.bool false) :: (.pointer (some ⟨b,7,none⟩)) :: (.slice p.K t.kids.length p.e) :: (.int .i64 t.kids.length) :: (.pointer (some ⟨b,0,none⟩)) :: (.int .i64 t.kind) :: (.int .i64 ar) :: (.bool d) :: (.bool d) :: []:List Value).toArray,defers:=[] } w') :
  (Code.region id lf1_ops.toArray true).wp Try.prog Q { tmps:=(s0 :: (.pointer (some ⟨b,0,none⟩)) :: s2 :: s3 :: s4 :: s5 :: s6 :: s7 :: s8 :: s9 :: s10 :: s11 :: s12 :: s13 :: s14 :: s15 :: []:List Value).toArray,defers:=[] } w0:=by
 refine wp_region_est (by kernel_rfl) (est2 0 0 (fun _=>False) (fun _=>False)) lf0_C (lf0_F w0 b p t ar d) (est2_dis (fun _ h _=>h)) (est2_range (fun _ h=>h.elim) (fun _ h=>h.elim)) (by rfl) (by kernel_rfl) (lf0_obs w0.drew b p t ar d hx har ha hd _ _ rfl) ?_
 intro a w' O hd hs hb hf hf2 ha hsame
 have hl:=slots_eq (ops:=lf1_ops.toArray) [(2,.bool d),(3,.pointer (some ⟨b,0,none⟩)),(4,.int .i64 t.kind),(5,.int .i64 ar),(6,.bool false),(7,.bool false),(8,.pointer (some ⟨b,7,none⟩)),(9,.slice p.K t.kids.length p.e),(10,.int .i64 t.kids.length),(11,.pointer (some ⟨b,0,none⟩)),(12,.int .i64 t.kind),(13,.int .i64 ar),(14,.bool d),(15,.bool d)] (show a.tmps.size=16 from hs) (fun i h=>hsame i h) ⟨(hf 13 _ 2 rfl rfl (by decide)).1,(hf 0 _ 3 rfl rfl (by decide)).1,(hf 1 _ 4 rfl rfl (by decide)).1,(hf 2 _ 5 rfl rfl (by decide)).1,(hf 3 _ 6 rfl rfl (by decide)).1,(hf 4 _ 7 rfl rfl (by decide)).1,(hf 5 _ 8 rfl rfl (by decide)).1,(hf 6 _ 9 rfl rfl (by decide)).1,(hf 7 _ 10 rfl rfl (by decide)).1,(hf 8 _ 11 rfl rfl (by decide)).1,(hf 9 _ 12 rfl rfl (by decide)).1,(hf 10 _ 13 rfl rfl (by decide)).1,(hf 11 _ 14 rfl rfl (by decide)).1,(hf 12 _ 15 rfl rfl (by decide)).1,trivial⟩ (by kernel_rfl)
 obtain ⟨tmps,defers⟩:=a
 obtain rfl:defers=[]:=hd
 have hl':tmps=_:=hl
 rw [hl']
 have hb':=est2_chg hb
 refine Eq.mp ?_ (hend w' ⟨hb'.os,hb'.tape,hb'.output,hb'.size,hb'.block⟩)
 kernel_rfl

set_option maxHeartbeats 2000000 in
theorem leaf_calls (t:Tm) (p:Pl) (w:World):Calls Try.prog 75 #[tmV p t] w fun e w'=>e=.returned (.bool (leafT t))∧Below w.heap.size w w':=by
 have HX:=Ak (show (w.alloc (tmO p t)).heap[w.heap.size]?=some (tmO p t) from blk_new _ _)
 have HB:=Ak (show Below w.heap.size w (w.alloc (tmO p t)) from below_alloc (Below.refl _ _) _)
 unfold tmV
 go_enter Try.func75,Try.ntmps75
 go_upto_region 1 with (fail)
 obtain ⟨ar,har⟩:∃ ar,arZ t.kind=ar:=⟨_,rfl⟩
 have hin:=arZ_in t.kind
 cases ha:decide (ar<1) with
 | true =>
  have HE:=Ak (show leafT t=true from decide_eq_true (by have:=of_decide_eq_true ha;unfold nK;rw [har];split <;> omega))
  refine lf1_region _ w.heap.size p t ar HX.out har ha ?_
  intro w2 hch
  have HB2:=Ak (below_then HB.out HB.out.size (hch.below (fun _ h=>h.elim False.elim False.elim) (Nat.le_refl _)))
  clear hch
  go_wp2
  go_ret
  rw [HE.out]
  exact ⟨rfl,HB2.out⟩
 | false =>
  obtain ⟨d,hd⟩:∃ d,decide ((t.kids.length:Int)<ar)=d:=⟨_,rfl⟩
  have HE:=Ak (show leafT t=d by
   have h1:=of_decide_eq_false ha
   rw [← hd]
   unfold leafT nK
   rw [har]
   by_cases h:(t.kids.length:Int)<ar
   ·rw [if_pos h,decide_eq_true h];rfl
   ·rw [if_neg h,decide_eq_false h,decide_eq_false];omega)
  refine lf0_region _ w.heap.size p t ar d HX.out har ha hd ?_
  intro w2 hch
  have HB2:=Ak (below_then HB.out HB.out.size (hch.below (fun _ h=>h.elim False.elim False.elim) (Nat.le_refl _)))
  clear hch
  go_wp2
  go_ret
  rw [HE.out]
  exact ⟨rfl,HB2.out⟩
end Go.Proofs.Ytdboloabpjmgaaa

namespace Go.Proofs.Ytdboloabpjmgaaa
open Go.RowKit Go.Proofs.YtdboloabpjmgaaaW.PrintWords Go.RegionInvYtdboloabpjmgaaa Go.RegionEYtdboloabpjmgaaa

set_option maxHeartbeats 2000000 in
theorem plus0_calls (S:Nat→Prop) (A:Option Addr) (c:Nat) (l:Lv) (w:World) (hin:LvS w S A c l):Calls Try.prog 101 #[.int .i64 0,lvV A c l] w (LvGot w S (owP l)):=by
 have hin2:LvS w (fun b=>S b∧b<w.heap.size) A c l:=hin.mono fun b h1 h2=>⟨h1,h2⟩
 have HIN:=Ak hin2
 have hl9:l.kids.length≤9223372036854775807:=by have:=hin.len;omega
 clear hin hin2
 unfold lvV
 go_enter Try.func101,Try.ntmps101
 go_wp2_with (first
  | (go_at_call 118;go_must (refine (own_calls (fun b=>S b∧b<w.heap.size) A c l _ (HIN.out.later (two_boxes _ _))).mono ?_;rintro e w2 ⟨A2,c2,rfl,hl2,hb⟩;have HL2:=Ak (got_two hl2);have HB2:=Ak (below_then (two_boxes _ _) (two_boxes _ _).size hb);have HX2:=Ak (blk_below (box1 w _ _) hb);have hsz2:=blk_lt HX2.out;obtain ⟨p0,p1,p2,-,-,-⟩:=row3 (blk_below (box0 w _ _) hb);obtain ⟨q0,q1,q2,z0,z1,z2⟩:=row3 HX2.out;obtain ⟨r0,r1,r2,y0,y1,y2⟩:=row3 (blk_alloc HX2.out (.cells #[.int .i64 (owP l).kind,.int .i64 (owP l).num,.slice A2 (owP l).kids.length c2] 25 (0,0)));obtain ⟨s0,s1,s2,-,-,-⟩:=row3 (blk_alloc (blk_below (box0 w _ _) hb) (.cells #[.int .i64 (owP l).kind,.int .i64 (owP l).num,.slice A2 (owP l).kids.length c2] 25 (0,0)));clear hb hl2;simp only [lvV])))
 refine bodyPost_ret (results_c rfl _ _ (w.heap.size+1) 25 #[.int .i64 (owP l).kind,.int .i64 (owP l).num,.slice A2 (owP l).kids.length c2] (0,0) _ rfl (set3 HX2.out) Try.underlying25 rfl (by kernel_rfl)) rfl ?_
 have hch:=chg_set3 w2 (w.heap.size+1) (.int .i64 (owP l).kind) (.int .i64 (owP l).num) (.slice A2 (owP l).kids.length c2)
 exact ⟨A2,c2,rfl,got_all (got_chg HL2.out hch),Chg.trans_below HB2.out hch (fun _ e=>by omega) HB2.out.size⟩
set_option maxHeartbeats 2000000 in
theorem ownLevel_calls (S:Nat→Prop) (A:Option Addr) (c:Nat) (l:Lv) (w:World) (hin:LvS w S A c l):Calls Try.prog 70 #[lvV A c l] w (LvGot w S (owP l)):=by
 have hin2:LvS w (fun b=>S b∧b<w.heap.size) A c l:=hin.mono fun b h1 h2=>⟨h1,h2⟩
 have HIN:=Ak hin2
 clear hin hin2
 unfold lvV
 go_enter Try.func70,Try.ntmps70
 go_wp2_with (first
  | (go_at_call 101;go_must (refine (plus0_calls (fun b=>S b∧b<w.heap.size) A c l _ (HIN.out.later (two_boxes _ _))).mono ?_;rintro e w2 ⟨A2,c2,rfl,hl2,hb⟩;have HL2:=Ak (got_two hl2);have HB2:=Ak (below_then (two_boxes _ _) (two_boxes _ _).size hb);have HX2:=Ak (blk_below (box1 w _ _) hb);have hsz2:=blk_lt HX2.out;obtain ⟨q0,q1,q2,z0,z1,z2⟩:=row3 HX2.out;clear hb hl2;simp only [lvV])))
 refine bodyPost_ret (results_c rfl _ _ (w.heap.size+1) 25 #[.int .i64 (owP l).kind,.int .i64 (owP l).num,.slice A2 (owP l).kids.length c2] (0,0) _ rfl (set3 HX2.out) Try.underlying25 rfl (by kernel_rfl)) rfl ?_
 have hch:=chg_set3 w2 (w.heap.size+1) (.int .i64 (owP l).kind) (.int .i64 (owP l).num) (.slice A2 (owP l).kids.length c2)
 exact ⟨A2,c2,rfl,got_all (got_chg HL2.out hch),Chg.trans_below HB2.out hch (fun _ e=>by omega) HB2.out.size⟩
end Go.Proofs.Ytdboloabpjmgaaa

namespace Go.Proofs.Ytdboloabpjmgaaa
open Go.RowKit Go.Proofs.YtdboloabpjmgaaaW.PrintWords Go.RegionInvYtdboloabpjmgaaa

abbrev SetL (S:Nat→Prop) (lo:Nat) (V:Value):Nat→Prop:=fun b=>S b∨(lo≤b∧V.ownBlock≠some b)
def KidsL (w:World) (S:Nat→Prop) (lo:Nat) (V:Value) (xs:List Lv):Prop:=
 ∃ (cells:List Value) (fA:Nat→Option Addr) (fc:Nat→Nat),w.ownsRow lo 25 3 V xs.length cells ∧
  ∀ (i:Nat) (x:Lv),xs[i]?=some x→cells[i * 3]?=some (.int .i64 x.kind)∧cells[i * 3+1]?=some (.int .i64 x.num)∧cells[i * 3+2]?=some (.slice (fA i) x.kids.length (fc i))∧LvS w (SetL S lo V) (fA i) (fc i) x
theorem KidsL.nil (w:World) (S:Nat→Prop) (lo:Nat):KidsL w S lo (.slice none 0 0) []:=⟨[],fun _=>none,fun _=>0,own_nil _ _ _ _,fun i x h=>by simp at h⟩
theorem KidsL.later {w w':World} {S:Nat→Prop} {lo:Nat} {V:Value} {xs:List Lv} (h:KidsL w S lo V xs) (hb:Below w.heap.size w w'):KidsL w' S lo V xs:=by
 obtain ⟨cells,fA,fc,ho,hk⟩:=h
 exact ⟨cells,fA,fc,pw_own_below ho hb,fun i x hx=>⟨(hk i x hx).1,(hk i x hx).2.1,(hk i x hx).2.2.1,(hk i x hx).2.2.2.later hb⟩⟩
theorem KidsL.other {w w':World} {S:Nat→Prop} {lo g:Nat} {V:Value} {xs:List Lv} (h:KidsL w S lo V xs) (hc:Chg (fun k=>k=g) w w') (hg:g<lo) (hS:¬ S g):KidsL w' S lo V xs:=by
 obtain ⟨cells,fA,fc,ho,hk⟩:=h
 refine ⟨cells,fA,fc,ownsRow_same ho fun k hk=>hc.block k (own_lt ho k hk) (by have:=own_base ho k hk;omega),fun i x hx=>?_⟩
 obtain ⟨h1,h2,h3,h4⟩:=hk i x hx
 exact ⟨h1,h2,h3,h4.same fun k hs hz=>hc.block k hz (fun e=>by rcases hs with hs | hs;exact hS (e ▸ hs);omega)⟩
theorem setL_keep {w w1:World} {S:Nat→Prop} {lo:Nat} {V v1:Value} {e:TypeId} {size n:Nat} {cells:List Value} (ho:w.ownsRow lo e size V n cells) (hS:∀ b,S b→b<lo) (hat:v1.ownBlock=V.ownBlock∨∃ b,v1.ownBlock=some b∧w.heap.size≤b) (hg:w.grownBy w1 V.ownBlock) :
  (∀ k,SetL S lo V k→k<w.heap.size→SetL S lo v1 k)∧∀ k,SetL S lo V k→k<w.heap.size→w1.heap[k]?=w.heap[k]?:=by
 refine ⟨fun k hk hz=>hk.imp id fun h=>⟨h.1,?_⟩,fun k hk hz=>hg.block k hz fun e=>?_⟩
 ·rcases hat with e | ⟨b,e,hb⟩
  ·rw [e];exact h.2
  ·rw [e];intro h';injection h' with h';omega
 ·rcases hk with hk | hk
  ·have:=hS k hk
   have:=own_base ho k e.symm
   omega
  ·exact hk.2 e.symm
theorem KidsL.push {w w1:World} {S:Nat→Prop} {lo:Nat} {V v1:Value} {xs:List Lv} {x:Lv} {A:Option Addr} {c:Nat} {cells:List Value} {fA:Nat→Option Addr} {fc:Nat→Nat} (hS:∀ b,S b→b<lo) (ho:w.ownsRow lo 25 3 V xs.length cells)
  (hk:∀ (i:Nat) (x:Lv),xs[i]?=some x→cells[i * 3]?=some (.int .i64 x.kind)∧cells[i * 3+1]?=some (.int .i64 x.num)∧cells[i * 3+2]?=some (.slice (fA i) x.kids.length (fc i))∧LvS w (SetL S lo V) (fA i) (fc i) x)
  (hx:LvS w (SetL S lo V) A c x) (ho1:w1.ownsRow lo 25 3 v1 (xs.length+1) (cells ++ [.int .i64 x.kind,.int .i64 x.num,.slice A x.kids.length c]))
  (hg:w.grownBy w1 V.ownBlock) (hat:v1.ownBlock=V.ownBlock∨∃ b,v1.ownBlock=some b∧w.heap.size≤b):KidsL w1 S lo v1 (xs ++ [x]):=by
 obtain ⟨k1,k2⟩:=setL_keep ho hS hat hg
 have keep:∀ {A:Option Addr} {c:Nat} {y:Lv},LvS w (SetL S lo V) A c y→LvS w1 (SetL S lo v1) A c y:=by
  intro A c y h
  have h1:LvS w (fun b=>SetL S lo V b∧b<w.heap.size) A c y:=h.mono fun k hk hz=>⟨hk,hz⟩
  exact (h1.same fun k hs hz=>k2 k hs.1 hz).mono fun k hs _=>k1 k hs.1 hs.2
 have hl:=own_len ho
 refine ⟨_,fun i=>if i=xs.length then A else fA i,fun i=>if i=xs.length then c else fc i,by simpa using ho1,fun i y hy=>?_⟩
 rcases Nat.lt_or_ge i xs.length with hi | hi
 ·rw [List.getElem?_append_left hi] at hy
  obtain ⟨h1,h2,h3,h4⟩:=hk i y hy
  rw [List.getElem?_append_left (by omega),List.getElem?_append_left (by omega),List.getElem?_append_left (by omega)]
  simp only [if_neg (show ¬ i=xs.length by omega)]
  exact ⟨h1,h2,h3,keep h4⟩
 ·rw [List.getElem?_append_right hi] at hy
  have hi2:i=xs.length:=by
   cases e:i - xs.length with
   | zero=>omega
   | succ j=>rw [e] at hy;simp at hy
  subst hi2
  obtain rfl:x=y:=by simpa using hy
  rw [List.getElem?_append_right (by omega),List.getElem?_append_right (by omega),List.getElem?_append_right (by omega)]
  simp only [↓reduceIte]
  rw [show xs.length * 3 - cells.length=0 by omega,show xs.length * 3+1 - cells.length=1 by omega,show xs.length * 3+2 - cells.length=2 by omega]
  exact ⟨rfl,rfl,rfl,keep hx⟩
theorem own_max {w:World} {lo n:Nat} {e:TypeId} {size:Nat} {A:Option Addr} {c:Nat} {xs:List Value} (ho:w.ownsRow lo e size (.slice A n c) n xs):c≤9223372036854775807:=by
 rcases ho.2 with ⟨h1,_⟩ | ⟨g,cap,cur,h1,_,_,h2,h3,_⟩
 ·injection h1 with _ _ h1;omega
 ·injection h1 with _ _ h1
  subst h1
  simp only [maxLen] at h3
  omega
theorem KidsL.level {w:World} {S:Nat→Prop} {lo:Nat} {V:Value} {xs:List Lv} (h:KidsL w S lo V xs):∃ A c,V=.slice A xs.length c∧LvS w (fun b=>S b∨lo≤b) A c (.mk 0 0 xs):=by
 obtain ⟨cells,fA,fc,ho,hk⟩:=h
 obtain ⟨A,c,rfl⟩:=own_slice ho
 refine ⟨A,c,rfl,.mk fA fc (own_cap ho) (own_max ho) (fun i x hx=>?_) (fun i x hx=>(hk i x hx).2.2.2.mono fun b hb _=>hb.imp id And.left)⟩
 have hi:i<xs.length:=by
  rcases Nat.lt_or_ge i xs.length with h | h
  ·exact h
  ·rw [List.getElem?_eq_none h] at hx;cases hx
 obtain ⟨g,cap,hv,hb,_⟩:=ho.form (by omega)
 obtain ⟨h1,h2,h3,_⟩:=hk i x hx
 have hv':=hv
 injection hv with hA
 exact ⟨⟨g,0,none⟩,hA,.inr hb,rfl,ho.cells (g:=g) (by rw [hv'];rfl) _ _ h1,ho.cells (g:=g) (by rw [hv'];rfl) _ _ h2,ho.cells (g:=g) (by rw [hv'];rfl) _ _ h3⟩
def KidsT (w:World) (S:Nat→Prop) (lo:Nat) (V:Value) (xs:List Tm):Prop:=
 ∃ (cells:List Value) (q:Nat→Pl),w.ownsRow lo 28 8 V xs.length cells ∧
  ∀ (i:Nat) (x:Tm),xs[i]?=some x→(∀ (j:Nat) (v:Value),(tmC (q i) x)[j]?=some v→cells[i * 8+j]?=some v)∧TmS w (SetL S lo V) (q i) x
theorem KidsT.nil (w:World) (S:Nat→Prop) (lo:Nat):KidsT w S lo (.slice none 0 0) []:=⟨[],fun _=>default,own_nil _ _ _ _,fun i x h=>by simp at h⟩
theorem KidsT.later {w w':World} {S:Nat→Prop} {lo:Nat} {V:Value} {xs:List Tm} (h:KidsT w S lo V xs) (hb:Below w.heap.size w w'):KidsT w' S lo V xs:=by
 obtain ⟨cells,q,ho,hk⟩:=h
 exact ⟨cells,q,pw_own_below ho hb,fun i x hx=>⟨(hk i x hx).1,(hk i x hx).2.later hb⟩⟩
theorem KidsT.other {w w':World} {S:Nat→Prop} {lo g:Nat} {V:Value} {xs:List Tm} (h:KidsT w S lo V xs) (hc:Chg (fun k=>k=g) w w') (hg:g<lo) (hS:¬ S g):KidsT w' S lo V xs:=by
 obtain ⟨cells,q,ho,hk⟩:=h
 refine ⟨cells,q,ownsRow_same ho fun k hk=>hc.block k (own_lt ho k hk) (by have:=own_base ho k hk;omega),fun i x hx=>⟨(hk i x hx).1,(hk i x hx).2.same fun k hs hz=>hc.block k hz (fun e=>by rcases hs with hs | hs;exact hS (e ▸ hs);omega)⟩⟩
theorem KidsT.push {w w1:World} {S:Nat→Prop} {lo:Nat} {V v1:Value} {xs:List Tm} {x:Tm} {p:Pl} {cells:List Value} {q:Nat→Pl} (hS:∀ b,S b→b<lo) (ho:w.ownsRow lo 28 8 V xs.length cells)
  (hk:∀ (i:Nat) (x:Tm),xs[i]?=some x→(∀ (j:Nat) (v:Value),(tmC (q i) x)[j]?=some v→cells[i * 8+j]?=some v)∧TmS w (SetL S lo V) (q i) x)
  (hx:TmS w (SetL S lo V) p x) (ho1:w1.ownsRow lo 28 8 v1 (xs.length+1) (cells ++ tmC p x))
  (hg:w.grownBy w1 V.ownBlock) (hat:v1.ownBlock=V.ownBlock∨∃ b,v1.ownBlock=some b∧w.heap.size≤b):KidsT w1 S lo v1 (xs ++ [x]):=by
 obtain ⟨k1,k2⟩:=setL_keep ho hS hat hg
 have keep:∀ {p:Pl} {y:Tm},TmS w (SetL S lo V) p y→TmS w1 (SetL S lo v1) p y:=by
  intro p y h
  have h1:TmS w (fun b=>SetL S lo V b∧b<w.heap.size) p y:=h.mono fun k hk hz=>⟨hk,hz⟩
  exact (h1.same fun k hs hz=>k2 k hs.1 hz).mono fun k hs _=>k1 k hs.1 hs.2
 have hl:=own_len ho
 refine ⟨_,fun i=>if i=xs.length then p else q i,by simpa using ho1,fun i y hy=>?_⟩
 rcases Nat.lt_or_ge i xs.length with hi | hi
 ·rw [List.getElem?_append_left hi] at hy
  obtain ⟨h1,h2⟩:=hk i y hy
  simp only [if_neg (show ¬ i=xs.length by omega)]
  refine ⟨fun j v hv=>?_,keep h2⟩
  have hj:j<8:=by have:=(List.getElem?_eq_some_iff.1 hv).1;rwa [tmC_len] at this
  rw [List.getElem?_append_left (by omega)]
  exact h1 j v hv
 ·rw [List.getElem?_append_right hi] at hy
  have hi2:i=xs.length:=by
   cases e:i - xs.length with
   | zero=>omega
   | succ j=>rw [e] at hy;simp at hy
  subst hi2
  obtain rfl:x=y:=by simpa using hy
  simp only [↓reduceIte]
  refine ⟨fun j v hv=>?_,keep hx⟩
  rw [List.getElem?_append_right (by omega),show xs.length * 8+j - cells.length=j by omega]
  exact hv
theorem KidsT.term {w:World} {S:Nat→Prop} {lo:Nat} {V:Value} {xs:List Tm} (h:KidsT w S lo V xs):∃ K e,V=.slice K xs.length e∧∀ (k n:Int) (nm:ByteArray),Fit n nm []→TmS w (fun b=>S b∨lo≤b) ⟨none,0,none,0,K,e⟩ (.mk k n nm (.mk 0 0 []) [] xs):=by
 obtain ⟨cells,q,ho,hk⟩:=h
 obtain ⟨K,e,rfl⟩:=own_slice ho
 refine ⟨K,e,rfl,fun k n nm hf=>.mk q (LvS.leaf _ _ _ _) (LvS.leaf _ _ _ _) (own_cap ho) (own_max ho) hf (fun i x hx=>?_) (fun i x hx=>(hk i x hx).2.mono fun b hb _=>hb.imp id And.left)⟩
 have hi:i<xs.length:=by
  rcases Nat.lt_or_ge i xs.length with h | h
  ·exact h
  ·rw [List.getElem?_eq_none h] at hx;cases hx
 obtain ⟨g,cap,hv,hb,_⟩:=ho.form (by omega)
 have hv':=hv
 injection hv with hA
 refine ⟨g,0,hA,.inr hb,fun j v hjv=>?_⟩
 have:=ho.cells (g:=g) (by rw [hv'];rfl) _ _ ((hk i x hx).1 j v hjv)
 rwa [add_flat,← Nat.add_assoc] at this
def TmGot (w:World) (S:Nat→Prop) (t:Tm) (e:Ending) (w':World):Prop:=∃ p,e=.returned (tmV p t)∧TmS w' (fun b=>S b∨w.heap.size≤b) p t∧Below w.heap.size w w'
theorem set8 {w:World} {g:Nat} {x0 x1 x2 x3 x4 x5 x6 x7 a0 a1 a2 a3 a4 a5 a6 a7:Value} {t:TypeId} (h:w.heap[g]?=some (.cells #[x0,x1,x2,x3,x4,x5,x6,x7] t (0,0))) :
  ((((((((w.setCell ⟨g,0,none⟩ a0).setCell ⟨g,1,none⟩ a1).setCell ⟨g,2,none⟩ a2).setCell ⟨g,3,none⟩ a3).setCell ⟨g,4,none⟩ a4).setCell ⟨g,5,none⟩ a5).setCell ⟨g,6,none⟩ a6).setCell ⟨g,7,none⟩ a7).heap[g]?=some (.cells #[a0,a1,a2,a3,a4,a5,a6,a7] t (0,0)):=by
 have h0:(w.setCell ⟨g,0,none⟩ a0).heap[g]?=some (.cells #[a0,x1,x2,x3,x4,x5,x6,x7] t (0,0)):=blk_put h 0 a0 rfl
 have h1:((w.setCell ⟨g,0,none⟩ a0).setCell ⟨g,1,none⟩ a1).heap[g]?=some (.cells #[a0,a1,x2,x3,x4,x5,x6,x7] t (0,0)):=blk_put h0 1 a1 rfl
 have h2:(((w.setCell ⟨g,0,none⟩ a0).setCell ⟨g,1,none⟩ a1).setCell ⟨g,2,none⟩ a2).heap[g]?=some (.cells #[a0,a1,a2,x3,x4,x5,x6,x7] t (0,0)):=blk_put h1 2 a2 rfl
 have h3:((((w.setCell ⟨g,0,none⟩ a0).setCell ⟨g,1,none⟩ a1).setCell ⟨g,2,none⟩ a2).setCell ⟨g,3,none⟩ a3).heap[g]?=some (.cells #[a0,a1,a2,a3,x4,x5,x6,x7] t (0,0)):=blk_put h2 3 a3 rfl
 have h4:(((((w.setCell ⟨g,0,none⟩ a0).setCell ⟨g,1,none⟩ a1).setCell ⟨g,2,none⟩ a2).setCell ⟨g,3,none⟩ a3).setCell ⟨g,4,none⟩ a4).heap[g]?=some (.cells #[a0,a1,a2,a3,a4,x5,x6,x7] t (0,0)):=blk_put h3 4 a4 rfl
 have h5:((((((w.setCell ⟨g,0,none⟩ a0).setCell ⟨g,1,none⟩ a1).setCell ⟨g,2,none⟩ a2).setCell ⟨g,3,none⟩ a3).setCell ⟨g,4,none⟩ a4).setCell ⟨g,5,none⟩ a5).heap[g]?=some (.cells #[a0,a1,a2,a3,a4,a5,x6,x7] t (0,0)):=blk_put h4 5 a5 rfl
 have h6:(((((((w.setCell ⟨g,0,none⟩ a0).setCell ⟨g,1,none⟩ a1).setCell ⟨g,2,none⟩ a2).setCell ⟨g,3,none⟩ a3).setCell ⟨g,4,none⟩ a4).setCell ⟨g,5,none⟩ a5).setCell ⟨g,6,none⟩ a6).heap[g]?=some (.cells #[a0,a1,a2,a3,a4,a5,a6,x7] t (0,0)):=blk_put h5 6 a6 rfl
 have h7:((((((((w.setCell ⟨g,0,none⟩ a0).setCell ⟨g,1,none⟩ a1).setCell ⟨g,2,none⟩ a2).setCell ⟨g,3,none⟩ a3).setCell ⟨g,4,none⟩ a4).setCell ⟨g,5,none⟩ a5).setCell ⟨g,6,none⟩ a6).setCell ⟨g,7,none⟩ a7).heap[g]?=some (.cells #[a0,a1,a2,a3,a4,a5,a6,a7] t (0,0)):=blk_put h6 7 a7 rfl
 exact h7
theorem chg_set3' (w:World) (g i j k:Nat) (a b c:Value):Chg (fun k=>k=g) w (((w.setCell ⟨g,i,none⟩ a).setCell ⟨g,j,none⟩ b).setCell ⟨g,k,none⟩ c):=chg_trans (chg_trans (chg_set _ _ _ _) (chg_set _ _ _ _)) (chg_set _ _ _ _)
theorem chg_set8 (w:World) (g:Nat) (a0 a1 a2 a3 a4 a5 a6 a7:Value):Chg (fun k=>k=g) w ((((((((w.setCell ⟨g,0,none⟩ a0).setCell ⟨g,1,none⟩ a1).setCell ⟨g,2,none⟩ a2).setCell ⟨g,3,none⟩ a3).setCell ⟨g,4,none⟩ a4).setCell ⟨g,5,none⟩ a5).setCell ⟨g,6,none⟩ a6).setCell ⟨g,7,none⟩ a7):=
 chg_trans (chg_trans (chg_trans (chg_trans (chg_trans (chg_trans (chg_trans (chg_set _ _ _ _) (chg_set _ _ _ _)) (chg_set _ _ _ _)) (chg_set _ _ _ _)) (chg_set _ _ _ _)) (chg_set _ _ _ _)) (chg_set _ _ _ _)) (chg_set _ _ _ _)
end Go.Proofs.Ytdboloabpjmgaaa

namespace Go.Proofs.Ytdboloabpjmgaaa
open Go.RowKit Go.Proofs.YtdboloabpjmgaaaW.PrintWords Go.RegionInvYtdboloabpjmgaaa Go.RegionEYtdboloabpjmgaaa

abbrev noName:ByteArray:=⟨#[]⟩
def nodeP (t:Tm):Tm:=.mk t.kind (if t.kind=1 then t.num else 0) (if t.kind=7 then t.name else noName) (if t.kind=2 then owP t.lv else .mk 0 0 []) (if t.kind=7 then t.ls.map owP else []) []
abbrev outN (k n:Int) (nm:ByteArray) (l:Lv) (A:Option Addr) (c:Nat) (V:Value):Obj:=.cells #[.int .i64 k,.int .i64 n,.string nm,.int .i64 l.kind,.int .i64 l.num,.slice A l.kids.length c,V,.slice none 0 0] 28 (0,0)
theorem row8c {w:World} {g:Nat} {x0 x1 x2 x3 x4 x5 x6 x7:Value} {t:TypeId} (h:w.heap[g]?=some (.cells #[x0,x1,x2,x3,x4,x5,x6,x7] t (0,0))) :
  w.cell? ⟨g,0,none⟩=some x0∧w.cell? ⟨g,1,none⟩=some x1∧w.cell? ⟨g,2,none⟩=some x2∧w.cell? ⟨g,3,none⟩=some x3∧w.cell? ⟨g,4,none⟩=some x4∧w.cell? ⟨g,5,none⟩=some x5∧w.cell? ⟨g,6,none⟩=some x6∧w.cell? ⟨g,7,none⟩=some x7∧w.frozen? ⟨g,0,none⟩=false∧w.frozen? ⟨g,1,none⟩=false∧w.frozen? ⟨g,2,none⟩=false∧w.frozen? ⟨g,3,none⟩=false∧w.frozen? ⟨g,4,none⟩=false∧w.frozen? ⟨g,5,none⟩=false∧w.frozen? ⟨g,6,none⟩=false∧w.frozen? ⟨g,7,none⟩=false:=by
 refine ⟨?_,?_,?_,?_,?_,?_,?_,?_,blk_frozen h 0,blk_frozen h 1,blk_frozen h 2,blk_frozen h 3,blk_frozen h 4,blk_frozen h 5,blk_frozen h 6,blk_frozen h 7⟩ <;> (rw [cell_of_row _ _ _ _ _ _ h];rfl)
structure NdB (w wr:World) (ob:Obj):Prop where
 o:wr.heap[w.heap.size+1+1]?=some ob
 res:wr.heap[w.heap.size+1]?=some (.cells #[.int .i64 0,.int .i64 0,.string noName,.int .i64 0,.int .i64 0,.slice none 0 0,.slice none 0 0,.slice none 0 0] 28 (0,0))
 bel:Below w.heap.size w wr
structure NdIn (w w5:World) (S:Nat→Prop) (k:Int) (nm:ByteArray) (V:Value) (xs:List Lv) (A5:Option Addr) (c5:Nat) (x:Lv):Prop extends NdB w w5 (outN k 0 nm (.mk 0 0 []) none 0 V) where
 kids:KidsL w5 S (w.heap.size+3) V xs
 kid:LvS w5 (SetL S (w.heap.size+3) V) A5 c5 x
theorem NdIn.cell {w w5:World} {S:Nat→Prop} {k:Int} {nm:ByteArray} {V:Value} {xs:List Lv} {A5:Option Addr} {c5:Nat} {x:Lv} (h:NdIn w w5 S k nm V xs A5 c5 x):w5.cell? ⟨w.heap.size+1+1,6,none⟩=some V:=by
 rw [cell_of_row _ _ _ _ _ _ h.o];rfl
theorem NdIn.cell2 {w w5:World} {S:Nat→Prop} {k:Int} {nm:ByteArray} {V:Value} {xs:List Lv} {A5:Option Addr} {c5:Nat} {x:Lv} (h:NdIn w w5 S k nm V xs A5 c5 x) (ob:Obj):(w5.alloc ob).cell? ⟨w.heap.size+1+1,6,none⟩=some V:=by
 rw [cell_of_row _ _ _ _ _ _ (blk_alloc h.o ob)];rfl
theorem NdIn.drew {w w5:World} {S:Nat→Prop} {k:Int} {nm:ByteArray} {V:Value} {xs:List Lv} {A5:Option Addr} {c5:Nat} {x:Lv} (h:NdIn w w5 S k nm V xs A5 c5 x):NdIn w w5.drew S k nm V xs A5 c5 x:=
 ⟨⟨h.o,h.res,below_drew h.bel⟩,h.kids.later (below_drew (Below.refl _ _)),h.kid.later (below_drew (Below.refl _ _))⟩
theorem nd_base {w w5:World} {ob:Obj} (h:NdB w w5 ob):w.heap.size+3≤w5.heap.size:=by have:=blk_lt h.o;omega
theorem nd_in {w wr W3 w5:World} {S:Nat→Prop} {k:Int} {nm:ByteArray} {V:Value} {xs:List Lv} {A5:Option Addr} {c5:Nat} {x:Lv} (h:NdB w wr (outN k 0 nm (.mk 0 0 []) none 0 V)) (hk:KidsL wr S (w.heap.size+3) V xs)
  (hb3:Below wr.heap.size wr W3) (hb5:Below W3.heap.size W3 w5) (hl:LvS w5 (fun b=>S b∨W3.heap.size≤b) A5 c5 x):NdIn w w5 S k nm V xs A5 c5 x:=by
 have hbb:Below wr.heap.size wr w5:=below_then hb3 hb3.size hb5
 have hlt:=blk_lt h.o
 refine ⟨⟨blk_below h.o hbb,blk_below h.res hbb,below_then h.bel h.bel.size hbb⟩,hk.later hbb,hl.mono fun b hb' _=>hb'.imp id fun hb'=>⟨by have:=hb3.size;omega,fun e=>?_⟩⟩
 obtain ⟨cells,fA,fc,hown,_⟩:=hk
 have:=own_lt hown b e
 have:=hb3.size
 omega
structure NdOut (w w6:World) (S:Nat→Prop) (k:Int) (nm:ByteArray) (V V6:Value) (xs:List Lv):Prop extends NdB w w6 (outN k 0 nm (.mk 0 0 []) none 0 V) where
 kids:KidsL w6 S (w.heap.size+3) V6 xs
theorem NdOut.cell {w w6:World} {S:Nat→Prop} {k:Int} {nm:ByteArray} {V V6:Value} {xs:List Lv} (h:NdOut w w6 S k nm V V6 xs):w6.cell? ⟨w.heap.size+1+1,6,none⟩=some V:=by
 rw [cell_of_row _ _ _ _ _ _ h.o];rfl
theorem nd_push {w w5 w6:World} {S:Nat→Prop} {k:Int} {nm:ByteArray} {V v6:Value} {xs:List Lv} {A5:Option Addr} {c5:Nat} {x:Lv} {cells:List Value} {fA:Nat→Option Addr} {fc:Nat→Nat} (hS:∀ b,S b→b<w.heap.size) (h:NdIn w w5 S k nm V xs A5 c5 x)
  (ho:w5.ownsRow (w.heap.size+3) 25 3 V xs.length cells)
  (hk:∀ (i:Nat) (x:Lv),xs[i]?=some x→cells[i * 3]?=some (.int .i64 x.kind)∧cells[i * 3+1]?=some (.int .i64 x.num)∧cells[i * 3+2]?=some (.slice (fA i) x.kids.length (fc i))∧LvS w5 (SetL S (w.heap.size+3) V) (fA i) (fc i) x)
  (ho1:w6.ownsRow (w.heap.size+3) 25 3 v6 (xs.length+1) (cells ++ [.int .i64 x.kind,.int .i64 x.num,.slice A5 x.kids.length c5])) (hg:w5.grownBy w6 V.ownBlock) (hat:v6.ownBlock=V.ownBlock∨∃ b,v6.ownBlock=some b∧w5.heap.size≤b):NdOut w w6 S k nm V v6 (xs ++ [x]):=by
 have far:∀ k,k<w.heap.size+3→some k≠V.ownBlock:=fun k hk e=>by have:=own_base ho k e.symm;omega
 refine ⟨⟨?_,?_,⟨hg.os.trans h.bel.os,hg.tape.trans h.bel.tape,hg.output.trans h.bel.output,Nat.le_trans h.bel.size hg.size,fun i hi=>?_⟩⟩,KidsL.push (fun b hb=>by have:=hS b hb;omega) ho hk h.kid ho1 hg hat⟩
 ·rw [hg.block _ (blk_lt h.o) (far _ (by omega))];exact h.o
 ·rw [hg.block _ (blk_lt h.res) (far _ (by omega))];exact h.res
 ·rw [hg.block i (Nat.lt_of_lt_of_le hi h.bel.size) (far i (by omega))];exact h.bel.block i hi
theorem nd_fin {w w6:World} {S:Nat→Prop} {k:Int} {nm:ByteArray} {V V6:Value} {xs ys:List Lv} (hS:∀ b,S b→b<w.heap.size) (h:NdOut w w6 S k nm V V6 xs) (e:ys=xs) :
  ∃ v5,Aside0 (NdB w (w6.setCell ⟨w.heap.size+1+1,6,none⟩ V6) (outN k 0 nm (.mk 0 0 []) none 0 v5))∧Aside0 (KidsL (w6.setCell ⟨w.heap.size+1+1,6,none⟩ V6) S (w.heap.size+3) v5 ys):=by
 subst e
 have hch:=chg_set w6 (w.heap.size+1+1) 6 V6
 exact ⟨V6,⟨⟨blk_put h.o 6 V6 rfl,(hch.block _ (blk_lt h.res) (by omega)).trans h.res,Chg.trans_below h.bel hch (fun _ e=>by omega) h.bel.size⟩⟩,⟨h.kids.other hch (by omega) (fun h=>by have:=hS _ h;omega)⟩⟩
set_option maxRecDepth 4000 in
set_option maxHeartbeats 16000000 in
theorem node_calls (S:Nat→Prop) (t:Tm) (p:Pl) (w:World) (hin:TmS w S p t):Calls Try.prog 63 #[tmV p t] w (TmGot w S (nodeP t)):=by
 obtain ⟨pA,pc,pB,pd,pK,pe⟩:=p
 have hin2:TmS w (fun b=>S b∧b<w.heap.size) ⟨pA,pc,pB,pd,pK,pe⟩ t:=hin.mono fun b h1 h2=>⟨h1,h2⟩
 have HIN:=Ak hin2
 have HS:=Ak (show ∀ b,(S b∧b<w.heap.size)→b<w.heap.size from fun b h=>h.2)
 have hll:=hin.lv.len
 have hln:=hin.ls.len
 clear hin hin2
 obtain ⟨W,hW⟩:∃ W,W=((w.alloc (tmO ⟨pA,pc,pB,pd,pK,pe⟩ t)).alloc (.cells #[.int .i64 0,.int .i64 0,.string ⟨#[]⟩,.int .i64 0,.int .i64 0,.slice none 0 0,.slice none 0 0,.slice none 0 0] 28 (0,0))).alloc (.cells #[.int .i64 t.kind,.int .i64 0,.string ⟨#[]⟩,.int .i64 0,.int .i64 0,.slice none 0 0,.slice none 0 0,.slice none 0 0] 28 (0,0)):=⟨_,rfl⟩
 have hX:W.heap[w.heap.size]?=some (tmO ⟨pA,pc,pB,pd,pK,pe⟩ t):=by rw [hW];exact blk_alloc (box0 w _ _) _
 have hst:NdB w W (outN t.kind 0 noName (.mk 0 0 []) none 0 (.slice none 0 0)):=by
  rw [hW]
  refine ⟨?_,blk_alloc (box1 w _ _) _,below_alloc (below_alloc (below_alloc (Below.refl _ _) _) _) _⟩
  have:=blk_new ((w.alloc (tmO ⟨pA,pc,pB,pd,pK,pe⟩ t)).alloc (.cells #[.int .i64 0,.int .i64 0,.string noName,.int .i64 0,.int .i64 0,.slice none 0 0,.slice none 0 0,.slice none 0 0] 28 (0,0))) (outN t.kind 0 noName (.mk 0 0 []) none 0 (.slice none 0 0))
  simp only [World.size_alloc] at this
  exact this
 have HX:=Ak hX
 have HST:=Ak hst
 unfold tmV
 go_enter Try.func63,Try.ntmps63
 go_upto_region 2 with (fail)
 rw [← hW]
 clear hW hX hst
 obtain ⟨c0,c1,c2,c3,c4,c5,c6,c7⟩:=row8 HX.out
 dsimp only at c5 c6 c7 hll hln
 obtain ⟨r0,r1,r2,r3,r4,r5,r6,r7,f0,f1,f2,f3,f4,f5,f6,f7⟩:=row8c HST.out.o
 have hlev:t.lv.kids.length≤9223372036854775807:=by omega
 obtain ⟨n,hn⟩:∃ n,n=t.ls.length:=⟨_,rfl⟩
 have hn40:n * 40≤140737488355328:=by rw [hn];exact HIN.out.fit.2.2
 have hn9:n≤9223372036854775807:=by rw [hn];exact Nat.le_trans hln.1 hln.2
 rw [← hn] at c6
 rw [← hn]
 have HN:=Ak hn
 clear hn hll hln
 go_upto_block 0 with (fail)
 go_cut [] (fun wr=>∃ pq:Pl,Aside0 (NdB w wr (tmO pq (nodeP t)))∧Aside0 (TmS wr (fun b=>(S b∧b<w.heap.size)∨w.heap.size+3≤b) pq (nodeP t)))
 case first =>
  by_cases h1:t.kind=1
  ·have HE:=Ak (show nodeP t=.mk t.kind t.num noName (.mk 0 0 []) [] [] by unfold nodeP;rw [if_pos h1,if_neg (by omega),if_neg (by omega),if_neg (by omega)])
   have b1:(t.kind == 1)=true:=by simp [h1]
   clear h1
   go_wp2
   go_meet
   have hch:=chg_set W (w.heap.size+1+1) 1 (.int .i64 t.num)
   case rel =>
    rw [HE.out]
    exact ⟨⟨none,0,none,0,none,0⟩,⟨⟨blk_put HST.out.o 1 _ rfl,(hch.block _ (blk_lt HST.out.res) (by omega)).trans HST.out.res,Chg.trans_below HST.out.bel hch (fun _ e=>by omega) HST.out.bel.size⟩⟩,⟨.mk (fun _=>default) (LvS.leaf _ _ _ _) (LvS.leaf _ _ _ _) (by simp) (by simp) ⟨HIN.out.fit.1,by decide,by simp⟩ (fun i x h=>by simp at h) (fun i x h=>by simp at h)⟩⟩
  have b1:(t.kind == 1)=false:=by simp [h1]
  have H1:=Ak h1
  clear h1
  by_cases h2:t.kind=2
  ·have HE:=Ak (show nodeP t=.mk t.kind 0 noName (owP t.lv) [] [] by unfold nodeP;rw [if_neg H1.out,if_neg (by omega),if_pos h2,if_neg (by omega)])
   have b2:(t.kind == 2)=true:=by simp [h2]
   clear h2
   go_wp2_with (first
    | (go_at_call 70;go_must (refine (ownLevel_calls (fun b=>S b∧b<w.heap.size) pA pc t.lv _ ((HIN.out.lv).same fun k hk hz=>HST.out.bel.block k hk.2)).mono ?_;obtain ⟨y,hy⟩:∃ y,y=owP t.lv:=⟨_,rfl⟩;rw [← hy];have HY:=Ak hy;rintro e w2 ⟨A2,cc2,rfl,hl2,hb⟩;have HL2:=Ak hl2;have HST2:=Ak (show NdB w w2 _ from ⟨blk_below HST.out.o hb,blk_below HST.out.res hb,below_then HST.out.bel HST.out.bel.size hb⟩);have HZ2:=Ak (nd_base HST.out);obtain ⟨r0,r1,r2,r3,r4,r5,r6,r7,f0,f1,f2,f3,f4,f5,f6,f7⟩:=row8c HST2.out.o;clear hb hl2 hy;simp only [lvV])))
   go_meet
   have hch:=chg_set3' w2 (w.heap.size+1+1) 3 4 5 (.int .i64 y.kind) (.int .i64 y.num) (.slice A2 y.kids.length cc2)
   have hz2:=HZ2.out
   case rel =>
    rw [HE.out,← HY.out]
    refine ⟨⟨A2,cc2,none,0,none,0⟩,⟨⟨blk_put (blk_put (blk_put HST2.out.o 3 _ rfl) 4 _ rfl) 5 _ rfl,(hch.block _ (blk_lt HST2.out.res) (by omega)).trans HST2.out.res,Chg.trans_below HST2.out.bel hch (fun _ e=>by omega) HST2.out.bel.size⟩⟩,⟨.mk (fun _=>default) ?_ (LvS.leaf _ _ _ _) (by simp) (by simp) ⟨by decide,by decide,by simp⟩ (fun i x h=>by simp at h) (fun i x h=>by simp at h)⟩⟩
    exact (HL2.out.same fun k hk hz=>hch.block k hz (fun e=>by rcases hk with hk | hk <;> omega)).mono fun k hk _=>hk.imp id fun h=>by omega
  have b2:(t.kind == 2)=false:=by simp [h2]
  have H2:=Ak h2
  clear h2
  by_cases h7:t.kind=7
  ·have HE:=Ak (show nodeP t=.mk t.kind 0 t.name (.mk 0 0 []) (t.ls.map owP) [] by unfold nodeP;rw [if_neg H1.out,if_pos h7,if_neg H2.out,if_pos h7])
   have b7:(t.kind == 7)=true:=by simp [h7]
   clear h7
   go_upto_block 1 with (fail)
   have hch:=chg_set W (w.heap.size+1+1) 2 (.string t.name)
   have hst1:NdB w (W.setCell ⟨w.heap.size+1+1,2,none⟩ (.string t.name)) (outN t.kind 0 t.name (.mk 0 0 []) none 0 (.slice none 0 0)):=⟨blk_put HST.out.o 2 _ rfl,(hch.block _ (blk_lt HST.out.res) (by omega)).trans HST.out.res,Chg.trans_below HST.out.bel hch (fun _ e=>by omega) HST.out.bel.size⟩
   obtain ⟨W1,hW1⟩:∃ W1,W1=W.setCell ⟨w.heap.size+1+1,2,none⟩ (.string t.name):=⟨_,rfl⟩
   rw [← hW1] at hst1 ⊢
   have HST1:=Ak hst1
   clear hst1 hch hW1
   go_wp2
   go_loopw [30] (fun i wr=>∃ (j:Nat) (V:Value),i=.int .i64 j∧j≤n∧Aside0 (NdB w wr (outN t.kind 0 t.name (.mk 0 0 []) none 0 V))∧Aside0 (KidsL wr (fun b=>S b∧b<w.heap.size) (w.heap.size+3) V ((t.ls.take j).map owP))) (fun i _=>n - (intOf i).toNat)
   case atStart=>exact ⟨0,.slice none 0 0,rfl,Nat.zero_le _,HST1,⟨KidsL.nil _ _ _⟩⟩
   case round =>
    clear HST1 HST HX c0 c1 c2 c3 c4 c5 c6 c7 r0 r1 r2 r3 r4 r5 r6 r7 f0 f1 f2 f3 f4 f5 f6 f7
    obtain ⟨j,V,rfl,hj,HST,HK⟩:=hrel
    by_cases hlt:j<n
    ·obtain ⟨x,hx⟩:∃ x,t.ls[j]?=some x:=⟨_,List.getElem?_eq_getElem (by rw [← HN.out];exact hlt)⟩
     obtain ⟨A',c',hcs,hxin⟩:=((HIN.out.ls).same (w':=wr) fun k hk hz=>HST.out.bel.block k hk.2).kid j x hx
     obtain ⟨ad,rfl,hc1,hc2,hc3⟩:=hcs.facts
     have HX:=Ak hx
     have HXIN:=Ak hxin
     obtain ⟨y,hy⟩:∃ y,y=owP x:=⟨_,rfl⟩
     have HY:=Ak hy
     have HTK:=Ak (show (t.ls.take (j+1)).map owP=(t.ls.take j).map owP ++ [y] by rw [List.take_add_one,hx,List.map_append,hy];rfl)
     have HTL:=Ak (show ((t.ls.take j).map owP).length=j by rw [List.length_map,List.length_take];have:=HN.out;omega)
     clear hcs hx hxin hy
     have hco:=blk_alloc HST.out.o (.cells #[.int .i64 x.kind,.int .i64 x.num,.slice A' x.kids.length c'] 25 (0,0))
     have hcv:(wr.alloc (.cells #[.int .i64 x.kind,.int .i64 x.num,.slice A' x.kids.length c'] 25 (0,0))).cell? ⟨w.heap.size+1+1,6,none⟩=some V:=by
      rw [cell_of_row _ _ _ _ _ _ hco];rfl
     have hcz:=blk_frozen hco 6
     clear hco
     go_upto_block 2 with (fail)
     go_cut [] (fun w5=>∃ v5,Aside0 (NdB w w5 (outN t.kind 0 t.name (.mk 0 0 []) none 0 v5))∧Aside0 (KidsL w5 (fun b=>S b∧b<w.heap.size) (w.heap.size+3) v5 ((t.ls.take (j+1)).map owP)))
     case first =>
      go_upto_region 12 with (fail)
      go_region_law (first
       | (go_simp;go_at_call 70;refine (ownLevel_calls (fun b=>S b∧b<w.heap.size) A' c' x _ (HXIN.out.later (by repeat' first | exact Below.refl _ _ | apply below_drew | apply below_alloc))).mono ?_;rw [← HY.out];rintro e w5 ⟨A5,c5,rfl,hl5,hb5⟩;have ST5:=Ak (nd_in HST.out HK.out (by repeat' first | exact Below.refl _ _ | apply below_drew | apply below_alloc) hb5 hl5);have hcv5:=ST5.out.cell;have hcz5:=blk_frozen ST5.out.o 6;have hcw5:=ST5.out.cell2 (.cells #[.int .i64 y.kind,.int .i64 y.num,.slice A5 y.kids.length c5] 25 (0,0));clear hl5 hb5;simp only [lvV])
       | (first
         | (have STA:=Ak ST5.out;obtain ⟨cells,fA,fc,hown,hkids⟩:=STA.out.kids;have hownj:=hown;rw [HTL.out] at hownj;refine step_append_cells (w0:=w5) (W:=w5) (w.heap.size+3) (by simp [Region.wanted]) (.tmp 35) (.tmp 38) 23 25 _ 3 40 rfl Try.underlying23 infoLv rfl (by decide) (by decide) V j cells [.int .i64 y.kind,.int .i64 y.num,.slice A5 y.kids.length c5] rfl rfl rfl (by simp [Value.oneCell']) hownj (Below.refl _ _) (nd_base STA.out.toNdB) (by omega) ?_;intro v6 w6 ho6 _ hg6 hat6;obtain ⟨A6,c6,rfl⟩:=own_slice ho6;have ST6:=Ak (nd_push HS.out STA.out hown hkids (by rw [HTL.out];exact ho6) hg6 hat6);have hcv6:=ST6.out.cell;have hcz6:=blk_frozen ST6.out.o 6;clear hown hownj hkids ho6 hg6 hat6 STA)
         | (have STA:=Ak ST5.out.drew;obtain ⟨cells,fA,fc,hown,hkids⟩:=STA.out.kids;have hownj:=hown;rw [HTL.out] at hownj;refine step_append_cells (w0:=w5.drew) (W:=w5.drew) (w.heap.size+3) (by simp [Region.wanted]) (.tmp 35) (.tmp 38) 23 25 _ 3 40 rfl Try.underlying23 infoLv rfl (by decide) (by decide) V j cells [.int .i64 y.kind,.int .i64 y.num,.slice A5 y.kids.length c5] rfl rfl rfl (by simp [Value.oneCell']) hownj (Below.refl _ _) (nd_base STA.out.toNdB) (by omega) ?_;intro v6 w6 ho6 _ hg6 hat6;obtain ⟨A6,c6,rfl⟩:=own_slice ho6;have ST6:=Ak (nd_push HS.out STA.out hown hkids (by rw [HTL.out];exact ho6) hg6 hat6);have hcv6:=ST6.out.cell;have hcz6:=blk_frozen ST6.out.o 6;clear hown hownj hkids ho6 hg6 hat6 STA)))
      all_goals (go_wp2;go_meet)
      all_goals (exact nd_fin HS.out ST6.out HTK.out)
     case rest =>
      clear HST HK HXIN hc1 hc2 hc3 hcv hcz
      obtain ⟨V2,HST,HK⟩:=hcut
      go_wp2
      go_roundw
      case rel=>exact ⟨j+1,V2,by go_num,by omega,HST,HK⟩
      case measure=>(simp [intOf];try omega)
    ·obtain rfl:j=n:=by omega
     have hlt':decide ((j:Int)<j)=false:=by simp
     have HTJ:=Ak (show t.ls.take j=t.ls from List.take_of_length_le (by rw [HN.out];exact Nat.le_refl _))
     go_wp2
     go_meet
     case rel =>
      rw [HTJ.out] at HK
      obtain ⟨A9,c9,rfl,hlv⟩:=HK.out.level
      rw [HE.out]
      exact ⟨⟨none,0,A9,c9,none,0⟩,HST,⟨.mk (fun _=>default) (LvS.leaf _ _ _ _) hlv (by simp) (by simp) ⟨by decide,HIN.out.fit.2.1,by rw [List.length_map];exact HIN.out.fit.2.2⟩ (fun i x h=>by simp at h) (fun i x h=>by simp at h)⟩⟩
  ·have HE:=Ak (show nodeP t=.mk t.kind 0 noName (.mk 0 0 []) [] [] by unfold nodeP;rw [if_neg H1.out,if_neg h7,if_neg H2.out,if_neg h7])
   have b7:(t.kind == 7)=false:=by simp [h7]
   clear h7
   go_wp2
   go_meet
   case rel =>
    rw [HE.out]
    exact ⟨⟨none,0,none,0,none,0⟩,HST,⟨.mk (fun _=>default) (LvS.leaf _ _ _ _) (LvS.leaf _ _ _ _) (by simp) (by simp) ⟨by decide,by decide,by simp⟩ (fun i x h=>by simp at h) (fun i x h=>by simp at h)⟩⟩
 case rest =>
  clear c0 c1 c2 c3 c4 c5 c6 c7 r0 r1 r2 r3 r4 r5 r6 r7 f0 f1 f2 f3 f4 f5 f6 f7 HST HX
  obtain ⟨pq,HST,HTM⟩:=hcut
  obtain ⟨y,hy⟩:∃ y,y=nodeP t:=⟨_,rfl⟩
  rw [← hy] at HST HTM
  have HY:=Ak hy
  clear hy
  obtain ⟨c0,c1,c2,c3,c4,c5,c6,c7⟩:=row8 HST.out.o
  obtain ⟨r0,r1,r2,r3,r4,r5,r6,r7,f0,f1,f2,f3,f4,f5,f6,f7⟩:=row8c HST.out.res
  go_wp2
  refine bodyPost_ret (results_c rfl _ _ (w.heap.size+1) 28 #[.int .i64 y.kind,.int .i64 y.num,.string y.name,.int .i64 y.lv.kind,.int .i64 y.lv.num,.slice pq.A y.lv.kids.length pq.c,.slice pq.B y.ls.length pq.d,.slice pq.K y.kids.length pq.e] (0,0) _ rfl (set8 HST.out.res) Try.underlying28 rfl (by kernel_rfl)) rfl ?_
  have hch:=chg_set8 wc (w.heap.size+1) (.int .i64 y.kind) (.int .i64 y.num) (.string y.name) (.int .i64 y.lv.kind) (.int .i64 y.lv.num) (.slice pq.A y.lv.kids.length pq.c) (.slice pq.B y.ls.length pq.d) (.slice pq.K y.kids.length pq.e)
  rw [← HY.out]
  exact ⟨pq,rfl,(HTM.out.same fun b hb hz=>hch.block b hz (by rcases hb with hb | hb <;> omega)).mono fun b hb _=>hb.imp And.left fun h=>by omega,Chg.trans_below HST.out.bel hch (fun _ e=>by omega) HST.out.bel.size⟩

end Go.Proofs.Ytdboloabpjmgaaa

namespace Go.RegionEYtdboloabpjmgaaa
open Go.RowKit Go.RegionInvYtdboloabpjmgaaa Go.Proofs.YtdboloabpjmgaaaW.PrintWords

def noDefer (o:Oper):Bool:=match o.op with | .defer _=>false | _=>true
theorem noDefer_of {o:Oper} (h:noDefer o=true):∀ c,o.op≠.defer c:=by
 intro c e
 unfold noDefer at h
 rw [e] at h
 cases h
theorem op_round {P:Program} {o:Oper} {a:Act} {w:World} {next next':Act→World→Prop} {Q:Exit→Act→World→Prop} {l m:Nat} (hnd:∀ c,o.op≠.defer c) (h:o.wp P a w next Q) (hn:∀ a w,next a w→next' a w) :
  o.wpIn (Fence.wide.inRound l) m P a w next' Q:=by
 refine ⟨fun f _=>trivial,?_⟩
 have e:Oper.semAt (Fence.wide.inRound l).round a.eval o=execOp a.eval o:=Oper.semAt_some l _ o hnd
 rw [e]
 unfold Oper.wp at h
 generalize (execOp a.eval o).run P w=r at h ⊢
 cases r with
 | ok nx w' =>
  cases nx with
  | value v=>exact hn _ _ h
  | skip=>exact hn _ _ h
  | defer d=>exact hn _ _ h
  | enter f args =>
   refine ⟨fun h=>by simp [Fence.wide] at h,?_⟩
   have hc:Calls P f args w' _:=h
   refine CallsIn.inRound l (callsIn_wide.2 (hc.mono ?_))
   intro e w'' h
   cases e with
   | returned v=>exact hn _ _ h
   | panicked c=>exact h
   | outgrown=>exact h
  | row row args =>
   refine ⟨fun h=>by simp [Fence.wide] at h,fun c cs _=>?_⟩
   obtain ⟨v,w2,hr,hs⟩:=(show Rows P row args w' _ from h) c cs
   exact ⟨v,w2,hn _ _ hr,stepsIn_wide.2 hs⟩
  | _=>exact h.elim
 | halt hl w' =>
  cases hl with
  | panic v=>exact h
  | _=>exact h.elim
theorem any_round {P:Program} {ops:Array Oper} {Q:Exit→Act→World→Prop} {l m:Nat} (hnd:∀ (i:Nat) (o:Oper),ops[i]?=some o→∀ c,o.op≠.defer c) (hQ:¬ LetsOut Q) (fuel:Nat) :
  ∀ (L:Array Bool) (a:Act) (w:World),wpAny P .any ops Q fuel L a w→wpAnyIn (Fence.wide.inRound l) m P .any ops Q fuel L a w:=by
 induction fuel with
 | zero=>intro L a w h;exact h
 | succ fuel ih =>
  intro L a w h
  refine ⟨h.1,fun i hi=>?_⟩
  have h2:=h.2 i hi
  unfold wpOp at h2
  unfold wpOpIn
  cases ho:ops[i]? with
  | none=>rw [ho] at h2;exact ih _ _ _ h2
  | some o =>
   rw [ho] at h2
   simp only at h2 ⊢
   by_cases hw:Region.wanted o (yielded ops a.tmps)=true
   ·rw [if_pos hw] at h2 ⊢
    rcases h2 with h2 | h2
    ·exact op_round (hnd i o ho) h2 (ih _)
    ·exact absurd h2.2 hQ
   ·rw [if_neg hw] at h2 ⊢
    exact ⟨fun f _=>trivial,ih _ _ _ h2⟩
section
variable {P:Program} {ops:Array Oper} {Q:Exit→Act→World→Prop} {E:Nat→Nat→Prop} {C:Nat→List Nat} {F:Nat→(Nat→Value)→Value→World→(Nat→Prop)→Prop} {a0:Act} {w0:World}
theorem wpIn_region_est {id l m:Nat} {a0:Act} {w0:World} (hQ:¬ LetsOut Q) (hnd:ops.all noDefer=true) (hm:P.follows .mixedOrders=true) (E:Nat→Nat→Prop) (C:Nat→List Nat) (F:Nat→(Nat→Value)→Value→World→(Nat→Prop)→Prop) (hE:∀ i j k,E i k→E j k→i=j) (hEr:∀ i k,E i k→k<w0.heap.size) (hok:okB ops a0.tmps.size=true) (hcons:consB ops C=true)
  (hobs:ObsE P ops Q E C F a0 w0.drew ops.toList 0)
  (hend:∀ a w (O:Nat→Nat→Prop),a.defers=a0.defers→a.tmps.size=a0.tmps.size→Chg (fun k=>∃ i,E i k) w0.drew w →
   (∀ (i:Nat) (o:Oper) (d:Nat),ops[i]?=some o→o.dst=some d→(∀ k,k<ops.size→i∉C k)→F i (slots a) (a.tmps.getD d undef) w (O i)∧∀ k,O i k→k<w.heap.size∧¬ Fix w0.drew E k) →
   (∀ (i:Nat) (o:Oper),ops[i]?=some o→o.dst=none→(∀ k,k<ops.size→i∉C k)→(∃ v,F i (slots a) v w (O i))∧∀ k,O i k→k<w.heap.size∧¬ Fix w0.drew E k) →
   (∀ i i',i<ops.size→i'<ops.size→(∀ k,k<ops.size→i∉C k)→(∀ k,k<ops.size→i'∉C k)→i≠i'→∀ k,O i k→¬ O i' k) →
   (∀ (t:Nat),(∀ (i:Nat) (o:Oper),ops[i]?=some o→o.dst≠some t)→a.tmps.getD t undef=a0.tmps.getD t undef)→Q .normal a w) :
  (Code.region id ops true).wpIn (Fence.wide.inRound l) m P Q a0 w0:=by
 refine wpIn_region_any hm (any_round (fun i o hi=>noDefer_of (Array.all_eq_true'.1 hnd o (Array.mem_of_getElem? hi))) hQ _ _ _ _ ?_)
 refine any_of_invE (E:=E) (C:=C) (F:=F) (a0:=a0) (w0:=w0.drew) hE hEr hok hcons hobs ?_ _ _ (fun _ _=>False) _ _ ?_ ?_
 ·intro L O a w hL hI
  have hl:∀ i,i<ops.size→(∀ k,k<ops.size→i∉C k)→live ops C L i:=fun i hi hn=>⟨hL i hi,fun k hk _=>hn k hk⟩
  refine hend a w O hI.defers hI.size hI.world (fun i o d hi hd hn=>?_) (fun i o hi hd hn=>?_) (fun i i' hi hi' hn hn' hne=>hI.apart i i' (hl i hi hn) (hl i' hi' hn') hne) (fun t ht=>hI.same t fun i o hi _=>ht i o hi)
  ·have hl:=hl i (Array.getElem?_eq_some_iff.1 hi).1 hn
   exact ⟨hI.fact i o d hi hd hl,fun k hO=>⟨(hI.owns i hl k hO).1,(hI.owns i hl k hO).2.1⟩⟩
  ·have hl:=hl i (Array.getElem?_eq_some_iff.1 hi).1 hn
   exact ⟨hI.nofact i o hi hd hl,fun k hO=>⟨(hI.owns i hl k hO).1,(hI.owns i hl k hO).2.1⟩⟩
 ·refine ⟨rfl,rfl,?_,?_,?_,?_,fun _ _=>rfl,?_,Chg.refl _ _,fun _ _ _ _=>rfl,by simp,fun i o d _ _ h=>by simp [Array.getD] at h⟩
  ·intro i o d _ _ h;have:=h.1;simp [Array.getD] at this
  ·intro i o _ _ h;have:=h.1;simp [Array.getD] at this
  ·intro i _ k h;exact h.elim
  ·intro i j _ _ _ k h;exact h.elim
  ·intro i o _ h;simp [Array.getD] at h
 ·exact Nat.le_trans (List.length_filter_le _ _) (by simp)
end
end Go.RegionEYtdboloabpjmgaaa

namespace Go.Proofs.Ytdboloabpjmgaaa
open Go.RowKit Go.Proofs.YtdboloabpjmgaaaW.PrintWords Go.RegionInvYtdboloabpjmgaaa Go.RegionEYtdboloabpjmgaaa

def CellsB (w:World) (k:Nat):Prop:=∃ cs t fr,w.heap[k]?=some (.cells cs t fr)
theorem cell_block {w:World} {a:Addr} {v:Value} (hs:a.spot=none) (h:w.cell? a=some v):CellsB w a.block:=by
 unfold World.cell? at h
 rw [hs] at h
 cases ho:w.heap[a.block]? with
 | none=>simp [ho] at h
 | some ob =>
  cases ob with
  | cells cs t fr=>exact ⟨cs,t,fr,ho⟩
  | _=>simp [ho] at h
theorem add_block (a:Addr) (j:Nat):(a.add j).block=a.block:=by unfold Addr.add;split <;> rfl
theorem add_spot {a:Addr} (h:a.spot=none) (j:Nat):(a.add j).spot=none:=by unfold Addr.add;split <;> simp_all
theorem LvS.cells {w:World} {S:Nat→Prop} {A:Option Addr} {c:Nat} {l:Lv} (h:LvS w S A c l):LvS w (fun k=>S k∧CellsB w k) A c l:=by
 induction h with
 | mk fA fc hc hm hcell hk ih =>
  refine .mk fA fc hc hm (fun i x hx=>?_) ih
  obtain ⟨ad,e,hS,hsp,h1,h2,h3⟩:=hcell i x hx
  have:=cell_block (add_spot hsp _) h1
  rw [add_block] at this
  exact ⟨ad,e,⟨hS,this⟩,hsp,h1,h2,h3⟩
theorem TmS.cells {w:World} {S:Nat→Prop} {p:Pl} {t:Tm} (h:TmS w S p t):TmS w (fun k=>S k∧CellsB w k) p t:=by
 induction h with
 | mk q hlv hls hc hm hf hcell hk ih =>
  refine .mk q hlv.cells hls.cells hc hm hf (fun i x hx=>?_) ih
  obtain ⟨b,o,e,hS,hcs⟩:=hcell i x hx
  exact ⟨b,o,e,⟨hS,cell_block rfl (hcs 0 _ rfl)⟩,hcs⟩
theorem TmS.grown {w w':World} {S:Nat→Prop} {p:Pl} {t:Tm} {row:Option Nat} (h:TmS w S p t) (hg:w.grownBy w' row) (hr:∀ r,row=some r→¬ CellsB w r):TmS w' S p t:=
 (h.cells.same (fun k hk hz=>hg.block k hz fun e=>hr k e.symm hk.2)).mono fun k hk _=>hk.1
theorem KidsT.grown {w w':World} {S:Nat→Prop} {lo:Nat} {V:Value} {xs:List Tm} {row:Option Nat} (h:KidsT w S lo V xs) (hg:w.grownBy w' row) (hr:∀ r,row=some r→¬ CellsB w r):KidsT w' S lo V xs:=by
 obtain ⟨cells,q,ho,hk⟩:=h
 refine ⟨cells,q,ownsRow_same ho fun k hk=>hg.block k (own_lt ho k hk) fun e=>hr k e.symm ?_,fun i x hx=>⟨(hk i x hx).1,(hk i x hx).2.grown hg hr⟩⟩
 rcases ho.2 with ⟨rfl,_⟩ | ⟨g,cap,cur,rfl,_,hh,_⟩
 ·simp [Value.ownBlock] at hk
 ·have:g=k:=by simpa [Value.ownBlock] using hk
  subst this
  exact ⟨_,_,_,hh⟩
theorem setCells_other (g:Nat):∀ (vs:List Value) (o:Nat) (w:World),(w.setCells g o vs).os=w.os∧(w.setCells g o vs).tape=w.tape∧(w.setCells g o vs).output=w.output∧(w.setCells g o vs).heap.size=w.heap.size∧∀ k,k≠g→(w.setCells g o vs).heap[k]?=w.heap[k]?
 | [],o,w=>⟨rfl,rfl,rfl,rfl,fun _ _=>rfl⟩
 | v :: r,o,w=>by
  have h:=setCells_other g r (o+1) (w.setCell ⟨g,o,none⟩ v)
  have hc:=chg_set w g o v
  rw [World.setCells]
  refine ⟨h.1.trans hc.os,h.2.1.trans hc.tape,h.2.2.1.trans hc.output,by rw [h.2.2.2.1,World.size_setCell],fun k hk=>?_⟩
  rw [h.2.2.2.2 k hk]
  by_cases hz:k<w.heap.size
  ·exact hc.block k hz hk
  ·rw [Array.getElem?_eq_none (by rw [World.size_setCell];omega),Array.getElem?_eq_none (by omega)]
theorem setCells_row {g:Nat} {e:TypeId}:∀ (vs:List Value) (o:Nat) (w:World) (cur:Array Value),w.heap[g]?=some (.cells cur e (0,0))→o+vs.length≤cur.size →
  ∃ cur',(w.setCells g o vs).heap[g]?=some (.cells cur' e (0,0))∧cur'.size=cur.size∧(∀ i,i<o→cur'[i]?=cur[i]?)∧∀ j v,vs[j]?=some v→cur'[o+j]?=some v
 | [],o,w,cur,h,_=>⟨cur,h,rfl,fun _ _=>rfl,fun j v hv=>by simp at hv⟩
 | v :: r,o,w,cur,h,hl=>by
  have h1:=blk_put h o v rfl
  rw [List.length_cons] at hl
  obtain ⟨cur',h2,h3,h4,h5⟩:=setCells_row r (o+1) (w.setCell ⟨g,o,none⟩ v) _ h1 (by simp;omega)
  refine ⟨cur',h2,by simpa using h3,fun i hi=>?_,fun j u hj=>?_⟩
  ·rw [h4 i (by omega),Array.getElem?_setIfInBounds_ne (by omega)]
  ·cases j with
   | zero =>
    obtain rfl:v=u:=by simpa using hj
    rw [Nat.add_zero,h4 o (by omega)]
    rw [Array.getElem?_setIfInBounds_self_of_lt (by omega)]
   | succ j =>
    have:=h5 j u (by simpa using hj)
    rw [show o+(j+1)=o+1+j by omega]
    exact this
theorem own_setLast {w:World} {lo g n cap size:Nat} {e:TypeId} {xs zs ys:List Value} (h:w.ownsRow lo e size (.slice (some ⟨g,0,none⟩) (n+1) cap) (n+1) (xs ++ zs)) (hz:zs.length=size) (hy:ys.length=size) :
  (w.setCells g (n * size) ys).ownsRow lo e size (.slice (some ⟨g,0,none⟩) (n+1) cap) (n+1) (xs ++ ys):=by
 obtain ⟨h1,h2⟩:=h
 rw [List.length_append,hz] at h1
 have hx:xs.length=n * size:=by rw [Nat.add_mul,Nat.one_mul] at h1;omega
 rcases h2 with ⟨e1,_⟩ | ⟨g',cap',cur,e1,hb,hh,hc,hm,hs,ht⟩
 ·simp at e1
 ·injection e1 with e1 _ e2
  injection e1 with e1
  injection e1 with e1
  subst e1
  subst e2
  have hle:(n+1) * size≤cap * size:=Nat.mul_le_mul_right _ hc
  have hsum:(n+1) * size=n * size+size:=by rw [Nat.add_mul,Nat.one_mul]
  obtain ⟨cur',k1,k2,k3,k4⟩:=setCells_row ys (n * size) w cur hh (by rw [hy];omega)
  refine ⟨by rw [List.length_append,hy,hx,hsum],.inr ⟨_,_,cur',rfl,hb,k1,hc,hm,by rw [k2,hs],?_⟩⟩
  apply List.ext_getElem?
  intro i
  have hcx:∀ i,i<n * size→cur.toList[i]?=xs[i]?:=fun i hi=>by
   have this:(cur.toList.take ((n+1) * size))[i]?=(xs ++ zs)[i]?:=by rw [ht]
   rw [List.getElem?_take,if_pos (by omega),List.getElem?_append_left (by omega)] at this
   exact this
  rw [List.getElem?_take]
  by_cases hi:i<(n+1) * size
  ·rw [if_pos hi]
   by_cases hi2:i<n * size
   ·rw [List.getElem?_append_left (by omega),← hcx i hi2]
    simpa using k3 i hi2
   ·rw [List.getElem?_append_right (by omega),hx]
    obtain ⟨j,rfl⟩:∃ j,i=n * size+j:=⟨i - n * size,by omega⟩
    have hj:j<ys.length:=by omega
    rw [Nat.add_sub_cancel_left,List.getElem?_eq_getElem hj]
    have:=k4 j _ (List.getElem?_eq_getElem hj)
    simpa using this
  ·rw [if_neg hi,List.getElem?_eq_none (by rw [List.length_append];omega)]
def TmO (T:Nat→Prop) (t:Tm) (v:Value) (w:World) (O:Nat→Prop):Prop:=∃ q,v=tmV q t∧TmS w (fun k=>T k∨O k) q t
theorem stableE_tm {w0:World} {E:Nat→Nat→Prop} {T:Nat→Prop} {t:Tm} (hT:∀ k,T k→Fix w0 E k):StableE w0 E (TmO T t):=by
 rintro v w w' O ⟨q,e,h⟩ hz hk
 exact ⟨q,e,h.same fun k hk' hz'=>hk k hz' (hk'.imp (hT k) id)⟩
def RowT (T:Nat→Prop) (lo n:Nat) (cells:List Value) (t:Tm) (V:Value) (w:World) (O:Nat→Prop):Prop:=
 ∃ q,w.ownsRow lo 28 8 V (n+1) (cells ++ tmC q t)∧(∀ k,V.ownBlock=some k→O k)∧TmS w (fun k=>T k∨(O k∧V.ownBlock≠some k)) q t
theorem stableE_row {w0:World} {E:Nat→Nat→Prop} {T:Nat→Prop} {lo n:Nat} {cells:List Value} {t:Tm} {V:Value} (hT:∀ k,T k→Fix w0 E k):StableE w0 E (fun _ w O=>RowT T lo n cells t V w O):=by
 rintro v w w' O ⟨q,ho,hO,h⟩ hz hk
 exact ⟨q,ownsRow_same ho fun k hk'=>hk k (own_lt ho k hk') (.inr (hO k hk')),hO,h.same fun k hk' hz'=>hk k hz' (hk'.imp (hT k) And.left)⟩
section
variable {ops:Array Oper} {Q:Exit→Act→World→Prop} {R:Nat→Prop} {a:Act} {w:World} {o:Oper} {T:Nat→Prop}
theorem obE_tmCall {f:FuncId} {fn:Func} {ars:Array Operand} {ts:Array TypeId} {t:Tm} (args:Array Value) (hf:Try.prog.funcs[f]?=some fn) (hname:(fn.name == "runtime.NumGoroutine")=false) (hb:fn.body.isSome=true)
  (ho:o.op=.call { callee:=.value (.func f),args:=ars,argTypes:=ts }) (hargs:ars.toList.map a.eval=args.toList) (hw:Region.wanted o (yielded ops a.tmps)=true)
  (hc:Calls Try.prog f args w (TmGot w (fun k=>T k∨R k) t)):OwesE Try.prog ops Q R (TmO T t) o a w:=by
 refine obE_call args hf hname hb ho hargs hw (hc.mono ?_)
 rintro e w' ⟨q,rfl,h,hB⟩
 exact ⟨_,fun k=>k<w'.heap.size∧(R k∨w.heap.size≤k),rfl,⟨q,rfl,h.mono fun k h hz=>h.elim (fun h=>h.elim .inl fun h=>.inr ⟨hz,.inl h⟩) fun h=>.inr ⟨hz,.inr h⟩⟩,Chg.of_below hB,fun k h=>h.2.elim .inl fun h'=>.inr ⟨h',h.1⟩⟩
theorem print_append_at {P:Program} {rest:List Oper} {W:World} {p:Nat} (base:Nat) (hgd:o.guard=none) (s x:Operand) (t e:TypeId) (z:Value) (size bytes:Nat)
  (ho:o.op=.call { callee:=.builtin .append,args:=#[s,x],argTypes:=#[t,t] })
  (ht:P.underlying t=some (.slice e)) (hinfo:(P.info? e).map (fun i=>(i.zero,i.size,i.bytes))=some (some z,size,bytes)) (hz:z.cells.size=size) (hs0:0<size) (hb0:0<bytes)
  (v:Value) (n:Nat) (xs ys:List Value) (hs:a.eval s=v) (hx:a.eval x=.slice (some ⟨p,0,none⟩) 1 1) (hp:W.heap[p]?=some (.cells ys.toArray e (0,0))) (hys:ys.length=size) (h1:∀ u∈ys,u.oneCell'=true)
  (HO:W.ownsRow base e size v n xs) (hl:(n+1) * bytes≤140737488355328) (hbase:base≤W.heap.size)
  (h:∀ v1 w1,w1.ownsRow base e size v1 (n+1) (xs ++ ys)→W.grownBy w1 v.ownBlock→(v1.ownBlock=v.ownBlock∨∃ b,v1.ownBlock=some b∧W.heap.size≤b)→wpList P ops Q rest (a.put o.dst v1) w1) :
  wpList P ops Q (o :: rest) a W:=by
 obtain ⟨i0,hi,hzz⟩:=Option.map_eq_some_iff.1 hinfo
 simp only [Prod.mk.injEq] at hzz
 obtain ⟨hz0,hz1,hz2⟩:=hzz
 have hlen:n+1≤140737488355328:=Nat.le_trans (Nat.le_mul_of_pos_right _ hb0) hl
 refine wpList_append_own_at W hgd s x t ho base e i0 z size bytes ht hi hz0 hz1 hz2 hz hs0 v n xs hs HO ⟨p,0,none⟩ 1 1 ys hx (by rw [hys];simp)
  (by simpa using World.news_of_block (cs:=ys.toArray) (t:=e) (fr:=(0,0)) hp) h1 (by simp only [maxLen];omega) hl hbase ?_
 intro v1 w1 hown hg _ hat
 refine h v1 w1 hown hg ?_
 rcases hat with hat | hat
 ·exact .inl hat
 ·exact .inr ⟨_,hat,Nat.le_refl _⟩
theorem infoTm:(Try.prog.info? 28).map (fun i=>(i.zero,i.size,i.bytes))=some (some (.agg #[.int .i64 0,.int .i64 0,.string ⟨#[]⟩,.int .i64 0,.int .i64 0,.slice none 0 0,.slice none 0 0,.slice none 0 0]),8,120):=by kernel_rfl
abbrev zeroC:List Value:=[.int .i64 0,.int .i64 0,.string ⟨#[]⟩,.int .i64 0,.int .i64 0,.slice none 0 0,.slice none 0 0,.slice none 0 0]
theorem tmC_one (q:Pl) (t:Tm):(tmC q t).all (·.oneCell')=true:=rfl
theorem obE_tmElem {t:Tm} {O1 O2:Nat→Prop} {x y:Operand} {lo n g c:Nat} {cells:List Value} {V:Value} (ho:o.op=.store 28 x y) (hw:Region.wanted o (yielded ops a.tmps)=true) (hV:V=.slice (some ⟨g,0,none⟩) (n+1) c) (hx:a.eval x=.pointer (some ⟨g,n * 8,none⟩))
  (h1:OwnO lo 28 8 (n+1) (cells ++ zeroC) V w O1) (h2:TmO T t (a.eval y) w O2) (hR1:∀ k,O1 k→R k) (hR2:∀ k,O2 k→R k) (hap:∀ k,O1 k→¬ O2 k) (hT:∀ k,T k→¬ O1 k) :
  OwesE Try.prog ops Q R (fun _ w O=>RowT T lo n cells t V w O) o a w:=by
 obtain ⟨q,hy,ht⟩:=h2
 subst hV
 obtain ⟨hown,hO⟩:=h1
 have hOg:O1 g:=hO g rfl
 have hblk:∃ cur,w.heap[g]?=some (.cells cur 28 (0,0))∧(n+1) * 8≤cur.size:=by
  rcases hown.2 with ⟨e1,_⟩ | ⟨g',cap',cur,e1,hb,hh,hc,hm,hs,ht⟩
  ·simp at e1
  ·injection e1 with e1 _ e2
   injection e1 with e1
   injection e1 with e1
   subst e1
   subst e2
   exact ⟨cur,hh,by rw [hs];exact Nat.mul_le_mul_right _ hc⟩
 obtain ⟨cur,hcur,hsz⟩:=hblk
 have hthere:w.there g (n * 8) (tmC q t).toArray.size:=fun j hj=>by
  have hj:j<8:=hj
  refine ⟨?_,blk_frozen hcur _⟩
  rw [cell_of_row _ _ _ _ _ _ hcur,Array.getElem?_eq_getElem (by omega)];rfl
 have hs:=run_storeVar_mid (P:=Try.prog) w g (n * 8) 28 (tmC q t).toArray hthere (by kernel_rfl) (by rw [List.all_toArray];exact tmC_one q t)
 obtain ⟨s1,s2,s3,s4,s5⟩:=setCells_other g (tmC q t) (n * 8) w
 refine obE_store (w':=w.setCells g (n * 8) (tmC q t)) (fun k=>O1 k∨O2 k) hw ?_ ⟨s1,s2,s3,Nat.le_of_eq s4.symm,fun k _ hn=>s5 k (fun e=>hn (e ▸ hR1 g hOg))⟩ ⟨q,own_setLast hown rfl rfl,fun k hk=>.inl (hO k hk),?_⟩ (fun k h=>.inl (h.elim (hR1 k) (hR2 k)))
 ·unfold execOp
  simp only [ho,hx,hy,tmV,Instr.storeAt,Instr.sureAddr,Sem.run_bind,Sem.run_pure,Result.andThen_ok]
  exact congrArg (Result.andThen · _) hs
 ·refine ((ht.mono (S':=fun k=>(T k∨O2 k)∧k≠g) fun k h _=>⟨h,fun e=>h.elim (fun h=>hT k h (e ▸ hOg)) (fun h=>hap g hOg (e ▸ h))⟩).same (fun k h _=>s5 k h.2)).mono fun k h _=>h.1.imp id fun h'=>⟨.inr h',fun e=>h.2 ?_⟩
  simpa [Value.ownBlock] using e.symm
end
end Go.Proofs.Ytdboloabpjmgaaa

namespace Go.Proofs.Ytdboloabpjmgaaa
open Go.RowKit Go.Proofs.YtdboloabpjmgaaaW.PrintWords Go.RegionInvYtdboloabpjmgaaa Go.RegionEYtdboloabpjmgaaa
set_option linter.unusedVariables false

abbrev outK (k:Int) (V:Value):Obj:=.cells #[.int .i64 k,.int .i64 0,.string ⟨#[]⟩,.int .i64 0,.int .i64 0,.slice none 0 0,.slice none 0 0,V] 28 (0,0)
set_option maxRecDepth 100000 in
theorem run_elemAddr {a:Act} {w:World} {o:Oper} {x y:Operand} {g n c:Nat} (ho:o.op=.indexAddr 26 x y) (hx:a.eval x=.slice (some ⟨g,0,none⟩) (n+1) c) (hy:a.eval y=.int .i64 n) :
  (execOp a.eval o).run Try.prog w=.ok (.value (.pointer (some ⟨g,n * 8,none⟩))) w:=by
 have hel:Try.prog.elem 26=28:=by simp [Program.elem,Try.underlying26]
 obtain ⟨j,hj,hz⟩:=Option.map_eq_some_iff.1 infoTm
 have hs:j.size=8:=by injection hz with _ hz;injection hz
 unfold execOp;rw [ho];simp only [];rw [hx,hy]
 simp only [Sem.run_bind,Result.andThen_ok]
 rw [run_indexAt_slice w 26 ⟨g,0,none⟩ (n+1) c .i64 n (by rw [hel];exact Try.underlying26),if_pos (by omega),hel]
 simp [sizeOf,typeInfo,hj,hs,Result.andThen,add_flat]

def rb_ops:List Oper:=[
 { dst:=some 23,op:=Go.Op.fieldAddr 28 (Go.Operand.tmp 7) 5,type:=0,pos:= "term.go:114",after:=#[],guard:=none },
 { dst:=some 24,op:=Go.Op.load 26 (Go.Operand.tmp 23),type:=26,pos:= "term.go:114",after:=#[{ on:=0,ground:=Go.Ground.data }],guard:=none },
 { dst:=some 25,op:=Go.Op.load 28 (Go.Operand.tmp 9),type:=28,pos:= "term.go:114",after:=#[],guard:=none },
 { dst:=some 26,op:=Go.Op.load 3 (Go.Operand.tmp 4),type:=3,pos:= "term.go:114",after:=#[],guard:=none },
 { dst:=some 27,op:=Go.Op.move (Go.Operand.tmp 8),type:=3,pos:= "term.go:114",after:=#[],guard:=none },
 { dst:=some 28,op:=Go.Op.binOp Go.BinOp.add 3 (Go.Operand.tmp 26) (Go.Operand.tmp 27) 3,type:=3,pos:= "term.go:114",after:=#[{ on:=3,ground:=Go.Ground.data },{ on:=4,ground:=Go.Ground.data }],guard:=none },
 { dst:=some 29,op:=Go.Op.load 68 (Go.Operand.tmp 5),type:=68,pos:= "term.go:114",after:=#[],guard:=none },
 { dst:=some 30,op:=Go.Op.call { callee:=Go.Callee.value (Go.Operand.func 60),args:=#[Go.Operand.tmp 25,Go.Operand.tmp 28,Go.Operand.tmp 29],argTypes:=#[28,3,68] },type:=28,pos:= "term.go:114",after:=#[{ on:=2,ground:=Go.Ground.data },{ on:=5,ground:=Go.Ground.data },{ on:=6,ground:=Go.Ground.data }],guard:=none },
 { dst:=some 31,op:=Go.Op.call { callee:=Go.Callee.builtin Go.Builtin.len,args:=#[Go.Operand.tmp 24],argTypes:=#[26] },type:=3,pos:= "term.go:114",after:=#[{ on:=1,ground:=Go.Ground.data }],guard:=none },
 { dst:=some 32,op:=Go.Op.buildSlice 26 1 #[(0,Go.Operand.const (Go.Value.agg #[Go.Value.int Go.IntKind.i64 0,Go.Value.int Go.IntKind.i64 0,Go.Value.string { data:=#[] },Go.Value.int Go.IntKind.i64 0,Go.Value.int Go.IntKind.i64 0,Go.Value.slice none 0 0,Go.Value.slice none 0 0,Go.Value.slice none 0 0]))],type:=26,pos:= "term.go:114",after:=#[],guard:=none },
 { dst:=some 33,op:=Go.Op.call { callee:=Go.Callee.builtin Go.Builtin.append,args:=#[Go.Operand.tmp 24,Go.Operand.tmp 32],argTypes:=#[26,26] },type:=26,pos:= "term.go:114",after:=#[{ on:=1,ground:=Go.Ground.data },{ on:=9,ground:=Go.Ground.data },{ on:=7,ground:=Go.Ground.chain },{ on:=0,ground:=Go.Ground.phase },{ on:=1,ground:=Go.Ground.phase },{ on:=2,ground:=Go.Ground.phase },{ on:=3,ground:=Go.Ground.phase },{ on:=4,ground:=Go.Ground.phase },{ on:=5,ground:=Go.Ground.phase },{ on:=6,ground:=Go.Ground.phase },{ on:=7,ground:=Go.Ground.phase },{ on:=8,ground:=Go.Ground.phase },{ on:=9,ground:=Go.Ground.phase }],guard:=none },
 { dst:=some 34,op:=Go.Op.indexAddr 26 (Go.Operand.tmp 33) (Go.Operand.tmp 31),type:=0,pos:= "term.go:114",after:=#[{ on:=10,ground:=Go.Ground.data },{ on:=8,ground:=Go.Ground.data },{ on:=0,ground:=Go.Ground.phase },{ on:=1,ground:=Go.Ground.phase },{ on:=2,ground:=Go.Ground.phase },{ on:=3,ground:=Go.Ground.phase },{ on:=4,ground:=Go.Ground.phase },{ on:=5,ground:=Go.Ground.phase },{ on:=6,ground:=Go.Ground.phase },{ on:=7,ground:=Go.Ground.phase },{ on:=8,ground:=Go.Ground.phase },{ on:=9,ground:=Go.Ground.phase },{ on:=10,ground:=Go.Ground.phase },{ on:=14,ground:=Go.Ground.gcOnly Go.Departure.appendInPlace }],guard:=none },
 { dst:=none,op:=Go.Op.store 28 (Go.Operand.tmp 34) (Go.Operand.tmp 30),type:=0,pos:= "term.go:114",after:=#[{ on:=11,ground:=Go.Ground.data },{ on:=7,ground:=Go.Ground.data },{ on:=10,ground:=Go.Ground.chain },{ on:=0,ground:=Go.Ground.phase },{ on:=1,ground:=Go.Ground.phase },{ on:=2,ground:=Go.Ground.phase },{ on:=3,ground:=Go.Ground.phase },{ on:=4,ground:=Go.Ground.phase },{ on:=5,ground:=Go.Ground.phase },{ on:=6,ground:=Go.Ground.phase },{ on:=7,ground:=Go.Ground.phase },{ on:=8,ground:=Go.Ground.phase },{ on:=9,ground:=Go.Ground.phase },{ on:=10,ground:=Go.Ground.phase },{ on:=14,ground:=Go.Ground.gcOnly Go.Departure.appendInPlace }],guard:=none },
 { dst:=some 35,op:=Go.Op.fieldAddr 28 (Go.Operand.tmp 7) 5,type:=0,pos:= "term.go:114",after:=#[{ on:=0,ground:=Go.Ground.phase },{ on:=1,ground:=Go.Ground.phase },{ on:=2,ground:=Go.Ground.phase },{ on:=3,ground:=Go.Ground.phase },{ on:=4,ground:=Go.Ground.phase },{ on:=5,ground:=Go.Ground.phase },{ on:=6,ground:=Go.Ground.phase },{ on:=7,ground:=Go.Ground.phase },{ on:=8,ground:=Go.Ground.phase },{ on:=9,ground:=Go.Ground.phase },{ on:=10,ground:=Go.Ground.phase },{ on:=11,ground:=Go.Ground.textOnly Go.Departure.appendInPlace },{ on:=12,ground:=Go.Ground.textOnly Go.Departure.appendInPlace }],guard:=none },
 { dst:=none,op:=Go.Op.store 26 (Go.Operand.tmp 35) (Go.Operand.tmp 33),type:=0,pos:= "term.go:114",after:=#[{ on:=13,ground:=Go.Ground.data },{ on:=10,ground:=Go.Ground.data },{ on:=10,ground:=Go.Ground.chain },{ on:=12,ground:=Go.Ground.textOnly Go.Departure.appendInPlace },{ on:=0,ground:=Go.Ground.phase },{ on:=1,ground:=Go.Ground.phase },{ on:=2,ground:=Go.Ground.phase },{ on:=3,ground:=Go.Ground.phase },{ on:=4,ground:=Go.Ground.phase },{ on:=5,ground:=Go.Ground.phase },{ on:=6,ground:=Go.Ground.phase },{ on:=7,ground:=Go.Ground.phase },{ on:=8,ground:=Go.Ground.phase },{ on:=9,ground:=Go.Ground.phase },{ on:=10,ground:=Go.Ground.phase },{ on:=11,ground:=Go.Ground.textOnly Go.Departure.appendInPlace },{ on:=12,ground:=Go.Ground.textOnly Go.Departure.appendInPlace }],guard:=none }]
def rb_F (w0:World) (S:Nat→Prop) (Ob Bx gb gf lo g0 g1 n c:Nat) (A:Option Addr) (cells:List Value) (kk b mr:Int) (q:Pl) (x x':Tm) (VF:Value):Nat→(Nat→Value)→Value→World→(Nat→Prop)→Prop:=fun rix=>match rix with
 | 0=>fun _ v _ _=>v=.pointer (some ⟨Ob,7,none⟩)
 | 1=>fun _ v _ _=>v=.slice A n c
 | 2=>fun _ v _ _=>v=tmV q x
 | 3=>fun _ v _ _=>v=.int .i64 b
 | 4=>fun _ v _ _=>v=.int .i64 mr
 | 5=>fun _ v _ _=>v=.int .i64 (b+mr)
 | 6=>fun _ v _ _=>v=VF
 | 7=>fun τ v w O=>TmO S x' v w O
 | 8=>fun _ v _ _=>v=.int .i64 n
 | 9=>fun τ v w O=>∃ p,v=.slice (some ⟨p,0,none⟩) 1 1∧w.heap[p]?=some (.cells zeroC.toArray 28 (0,0))∧O p
 | 10=>fun τ v w O=>OwnO lo 28 8 (n+1) (cells ++ zeroC) v w O
 | 11=>fun τ v w O=>∃ g c2,τ 33=.slice (some ⟨g,0,none⟩) (n+1) c2∧v=.pointer (some ⟨g,n * 8,none⟩)
 | 12=>fun τ v w O=>RowT S lo n cells x' (τ 33) w O
 | 13=>fun _ v _ _=>v=.pointer (some ⟨Ob,7,none⟩)
 | 14=>fun τ v w O=>w.heap[Ob]?=some (outK kk (τ 33))∧O Ob
 | _=>fun _ _ _ _=>True
def rb_C:Nat→List Nat:=fun rix=>match rix with
 | 12=>[10,7]
 | _=>[]
theorem rb_nw4:nwB rb_ops.toArray 4=true:=by kernel_rfl
theorem rb_nw5:nwB rb_ops.toArray 5=true:=by kernel_rfl
theorem rb_nw7:nwB rb_ops.toArray 7=true:=by kernel_rfl
theorem rb_nw8:nwB rb_ops.toArray 8=true:=by kernel_rfl
theorem rb_nw9:nwB rb_ops.toArray 9=true:=by kernel_rfl
set_option maxRecDepth 100000 in
set_option maxHeartbeats 8000000 in
theorem rb_obs (w0:World) (S:Nat→Prop) (Ob Bx gb gf lo g0 g1 n c:Nat) (A:Option Addr) (cells:List Value) (kk b mr:Int) (q:Pl) (x x':Tm) (VF:Value) (hS:∀ k,S k→k<g0) (hO:w0.heap[Ob]?=some (outK kk (.slice A n c))) (hB:w0.heap[Bx]?=some (tmO q x)) (hb:w0.heap[gb]?=some (.cells #[.int .i64 b] 3 (0,0))) (hf:w0.heap[gf]?=some (.cells #[VF] 68 (0,0))) (hV:w0.ownsRow lo 28 8 (.slice A n c) n cells) (hn:n≤100) (hlo:Ob<lo) (hlz:lo≤w0.heap.size) (hVB:(Value.slice A n c).ownBlock≠some Bx) (hBO:Bx≠Ob) (hbO:gb<Ob) (hfO:gf<Ob) (hg0:g0≤Ob) (hg1:g1≤Ob) (hr:-9223372036854775808≤b+mr∧b+mr≤9223372036854775807) (hIH:∀ w,w0.heap.size≤w.heap.size→(∀ k,k<g1→w.heap[k]?=w0.heap[k]?)→Calls Try.prog 60 #[tmV q x,.int .i64 (b+mr),VF] w (TmGot w S x')) (Q:Exit→Act→World→Prop) (a0:Act) (hi4:a0.tmps.getD 4 undef=.pointer (some ⟨gb,0,none⟩)) (hi5:a0.tmps.getD 5 undef=.pointer (some ⟨gf,0,none⟩)) (hi7:a0.tmps.getD 7 undef=.pointer (some ⟨Ob,0,none⟩)) (hi8:a0.tmps.getD 8 undef=.int .i64 mr) (hi9:a0.tmps.getD 9 undef=.pointer (some ⟨Bx,0,none⟩)) :
  ObsE Try.prog rb_ops.toArray Q (est2 10 14 (fun k=>(Value.slice A n c).ownBlock=some k) (fun k=>k=Ob)) rb_C (rb_F w0 S Ob Bx gb gf lo g0 g1 n c A cells kk b mr q x x' VF) a0 w0 rb_ops.toArray.toList 0:=by
 have nw4:=rb_nw4
 have nw5:=rb_nw5
 have nw7:=rb_nw7
 have nw8:=rb_nw8
 have nw9:=rb_nw9
 refine ⟨?_,?_,?_,?_,?_,?_,?_,?_,?_,?_,?_,?_,?_,?_,?_,trivial⟩
 ·refine ⟨⟨fun τ=>stableE_det _,leans_not⟩,?_⟩
  intro a w O hk
  have e7:a.eval (.tmp 7)=.pointer (some ⟨Ob,0,none⟩):=(hk.init 7 (initialB_of_nw nw7)).trans hi7
  exact obE_run (wanted_none rfl) (by unfold execOp;simp only [];rw [e7];go_simp) rfl
 ·refine ⟨⟨fun τ=>stableE_det _,leans_not⟩,?_⟩
  intro a w O hk
  have e23:a.eval (.tmp 23)=.pointer (some ⟨Ob,7,none⟩):=hk.fact 0 _ 23 rfl rfl rfl rfl
  have x7:=(hk.est 14 _ rfl (.inr rfl) Ob (.inr ⟨rfl,rfl⟩)).trans hO
  obtain ⟨p0,p1,p2,p3,p4,p5,p6,p7,-,-,-,-,-,-,-,-⟩:=row8c x7
  exact obE_run (wanted_none rfl) (by unfold execOp;simp only [];rw [e23];go_simp) rfl
 ·refine ⟨⟨fun τ=>stableE_det _,leans_not⟩,?_⟩
  intro a w O hk
  have e9:a.eval (.tmp 9)=.pointer (some ⟨Bx,0,none⟩):=(hk.init 9 (initialB_of_nw nw9)).trans hi9
  have xB:=(hk.fix Bx (est2_fix (blk_lt hB) (fun e=>hVB e) (fun e=>hBO e))).trans hB
  exact obE_loadRow rfl e9 xB Try.underlying28 rfl (by kernel_rfl) (wanted_none rfl) rfl
 ·refine ⟨⟨fun τ=>stableE_det _,leans_not⟩,?_⟩
  intro a w O hk
  have e4:a.eval (.tmp 4)=.pointer (some ⟨gb,0,none⟩):=(hk.init 4 (initialB_of_nw nw4)).trans hi4
  have xb:=(hk.fix gb (est2_fix (blk_lt hb) (fun e=>by have:=own_base hV gb e;omega) (fun e=>by have e:gb=Ob:=e;omega))).trans hb
  have p0:w.cell? ⟨gb,0,none⟩=some (.int .i64 b):=by rw [cell_of_row _ _ _ _ _ _ xb];rfl
  exact obE_run (wanted_none rfl) (by unfold execOp;simp only [];rw [e4];go_simp) rfl
 ·refine ⟨⟨fun τ=>stableE_det _,leans_not⟩,?_⟩
  intro a w O hk
  have e8:a.eval (.tmp 8)=.int .i64 mr:=(hk.init 8 (initialB_of_nw nw8)).trans hi8
  exact toE (ob_move rfl e8 (wanted_none rfl) rfl)
 ·refine ⟨⟨fun τ=>stableE_det _,leans_not⟩,?_⟩
  intro a w O hk
  have e26:a.eval (.tmp 26)=.int .i64 b:=hk.fact 3 _ 26 rfl rfl rfl rfl
  have e27:a.eval (.tmp 27)=.int .i64 mr:=hk.fact 4 _ 27 rfl rfl rfl rfl
  have hw9:IntKind.i64.wrap (b+mr)=b+mr:=IntWalk.i64_in _ hr
  exact obE_run (wanted_none rfl) (by unfold execOp;simp only [];rw [e26,e27];go_simp) rfl
 ·refine ⟨⟨fun τ=>stableE_det _,leans_not⟩,?_⟩
  intro a w O hk
  have e5:a.eval (.tmp 5)=.pointer (some ⟨gf,0,none⟩):=(hk.init 5 (initialB_of_nw nw5)).trans hi5
  have xf:=(hk.fix gf (est2_fix (blk_lt hf) (fun e=>by have:=own_base hV gf e;omega) (fun e=>by have e:gf=Ob:=e;omega))).trans hf
  have p0:w.cell? ⟨gf,0,none⟩=some VF:=by rw [cell_of_row _ _ _ _ _ _ xf];rfl
  exact obE_run (wanted_none rfl) (by unfold execOp;simp only [];rw [e5];go_simp) rfl
 ·refine ⟨⟨fun τ=>stableE_tm (fun k hk'=>est2_fix (by have hk':k<g0:=hS _ hk';omega) (fun e=>by have:=own_base hV k e;have hk':k<g0:=hS _ hk';omega) (fun e=>by have e:k=Ob:=e;have hk':k<g0:=hS _ hk';omega)),leans_not⟩,?_⟩
  intro a w O hk
  have e25:a.eval (.tmp 25)=tmV q x:=hk.fact 2 _ 25 rfl rfl rfl rfl
  have e28:a.eval (.tmp 28)=.int .i64 (b+mr):=hk.fact 5 _ 28 rfl rfl rfl rfl
  have e29:a.eval (.tmp 29)=VF:=hk.fact 6 _ 29 rfl rfl rfl rfl
  exact obE_tmCall #[tmV q x,.int .i64 (b+mr),VF] rfl rfl rfl rfl (by simp only [List.map_cons,List.map_nil];rw [e25,e28,e29];try rfl) (wanted_none rfl) ((hIH w hk.world.size (fun k hk'=>hk.fix k (est2_fix (by omega) (fun e=>by have:=own_base hV k e;omega) (fun e=>by have e:k=Ob:=e;omega)))).mono fun e w' ⟨q',h1,h2,h3⟩=>⟨q',h1,h2.mono fun k h hz=>h.elim (fun h=>.inl (.inl h)) .inr,h3⟩)
 ·refine ⟨⟨fun τ=>stableE_det _,leans_not⟩,?_⟩
  intro a w O hk
  have e24:a.eval (.tmp 24)=.slice A n c:=hk.fact 1 _ 24 rfl rfl rfl rfl
  exact toE (ob_len rfl e24 Try.underlying26 (wanted_none rfl) rfl)
 ·refine ⟨⟨fun τ=>stableE_ex fun p=>stableE_and stableE_pure (stableE_block _ _),leans_not⟩,?_⟩
  intro a w O hk
  exact obE_lit (cs:=zeroC.toArray) (e:=28) (wanted_none rfl) (by unfold execOp;simp only [List.map_toArray,List.map_cons,List.map_nil];go_simp) (fun w' h _=>⟨_,rfl,h,rfl⟩)
 ·refine ⟨⟨fun τ=>stableE_own _ _ _ _ _,leans_not⟩,?_⟩
  intro a w O hk
  have e24:a.eval (.tmp 24)=.slice A n c:=hk.fact 1 _ 24 rfl rfl rfl rfl
  have f32:=hk.fact 9 _ 32 rfl rfl rfl rfl
  have g32:=hk.owns 9 rfl rfl
  have ow:=ownsRow_same hV (fun k hk'=>hk.est 10 _ rfl (.inl rfl) k (.inl ⟨rfl,hk'⟩))
  obtain ⟨p,q32,hp,-⟩:=f32
  have e32:a.eval (.tmp 32)=.slice (some ⟨p,0,none⟩) 1 1:=q32
  refine obE_listGrew (.slice A n c) (wanted_none rfl) (fun k hk=>.inr (.inl ⟨rfl,hk⟩)) (fun Q' hQ=>?_)
  refine print_append_at lo rfl (.tmp 24) (.tmp 32) 26 28 _ 8 120 rfl Try.underlying26 infoTm rfl (by decide) (by decide) (.slice A n c) n cells zeroC e24 e32 hp rfl (List.all_eq_true.1 rfl) ow (by omega) (Nat.le_trans hlz hk.world.size) ?_
  intro v1 w1 ho1 hg hat
  exact hQ v1 w1 ho1 hg hat
 ·refine ⟨⟨fun τ=>stableE_pure,fun τ τ' h=>by have e:τ' 33=τ 33:=h 10 _ 33 rfl rfl rfl;show (fun (v:Value) (w:World) (O:Nat→Prop)=>∃ g c2,τ 33=.slice (some ⟨g,0,none⟩) (n+1) c2∧v=.pointer (some ⟨g,n * 8,none⟩))=(fun (v:Value) (w:World) (O:Nat→Prop)=>∃ g c2,τ' 33=.slice (some ⟨g,0,none⟩) (n+1) c2∧v=.pointer (some ⟨g,n * 8,none⟩));rw [e]⟩,?_⟩
  intro a w O hk
  have e31:a.eval (.tmp 31)=.int .i64 n:=hk.fact 8 _ 31 rfl rfl rfl rfl
  obtain ⟨τ9,w9,O9,hs9⟩:=hk.shape 10 _ 33 rfl rfl rfl
  have hso:=hs9.1
  obtain ⟨g9,c9,q33,-,-⟩:=World.ownsRow.form hso (by omega)
  have e33:a.eval (.tmp 33)=.slice (some ⟨g9,0,none⟩) (n+1) c9:=q33
  exact obE_run (wanted_none rfl) (run_elemAddr rfl e33 e31) ⟨g9,c9,q33,rfl⟩
 ·refine ⟨⟨fun τ=>stableE_row (fun k hk'=>est2_fix (by have hk':k<g0:=hS _ hk';omega) (fun e=>by have:=own_base hV k e;have hk':k<g0:=hS _ hk';omega) (fun e=>by have e:k=Ob:=e;have hk':k<g0:=hS _ hk';omega)),fun τ τ' h=>by have e:τ' 33=τ 33:=h 10 _ 33 rfl rfl rfl;show (fun (v:Value) (w:World) (O:Nat→Prop)=>RowT S lo n cells x' (τ 33) w O)=(fun (v:Value) (w:World) (O:Nat→Prop)=>RowT S lo n cells x' (τ' 33) w O);rw [e]⟩,?_⟩
  intro a w O hk
  have f34:=hk.fact 11 _ 34 rfl rfl rfl rfl
  have g34:=hk.owns 11 rfl rfl
  have f30:=hk.fact 7 _ 30 rfl rfl rfl rfl
  have g30:=hk.owns 7 rfl rfl
  have f33:=hk.fact 10 _ 33 rfl rfl rfl rfl
  obtain ⟨g9,c9,q33,q34⟩:=f34
  exact obE_tmElem rfl (wanted_none rfl) q33 q34 f33 f30 (fun k h=>.inl ⟨10,by simp [rb_C],h⟩) (fun k h=>.inl ⟨7,by simp [rb_C],h⟩) (hk.apart 10 7 rfl rfl rfl rfl (by decide)) (fun k h1 h2=>by have h1:k<g0:=hS _ h1;exact ((hk.owns 10 rfl rfl) k h2).2 (est2_fix (by omega) (fun e=>by have:=own_base hV k e;omega) (fun e=>by have e:k=Ob:=e;omega)))
 ·refine ⟨⟨fun τ=>stableE_det _,leans_not⟩,?_⟩
  intro a w O hk
  have e7:a.eval (.tmp 7)=.pointer (some ⟨Ob,0,none⟩):=(hk.init 7 (initialB_of_nw nw7)).trans hi7
  exact obE_run (wanted_none rfl) (by unfold execOp;simp only [];rw [e7];go_simp) rfl
 ·refine ⟨⟨fun τ=>(fun v w w' O h hz hk=>⟨(hk Ob (blk_lt h.1) (.inr h.2)).trans h.1,h.2⟩),fun τ τ' h=>by have e:τ' 33=τ 33:=h 10 _ 33 rfl rfl rfl;show (fun (v:Value) (w:World) (O:Nat→Prop)=>w.heap[Ob]?=some (outK kk (τ 33))∧O Ob)=(fun (v:Value) (w:World) (O:Nat→Prop)=>w.heap[Ob]?=some (outK kk (τ' 33))∧O Ob);rw [e]⟩,?_⟩
  intro a w O hk
  have e35:a.eval (.tmp 35)=.pointer (some ⟨Ob,7,none⟩):=hk.fact 13 _ 35 rfl rfl rfl rfl
  obtain ⟨τ9,w9,O9,hs9⟩:=hk.shape 10 _ 33 rfl rfl rfl
  obtain ⟨A3,c3,q33⟩:=own_slice hs9.1
  have e33:a.eval (.tmp 33)=.slice A3 (n+1) c3:=q33
  have x7:=(hk.est 14 _ rfl (.inl rfl) Ob (.inr ⟨rfl,rfl⟩)).trans hO
  obtain ⟨p0,p1,p2,p3,p4,p5,p6,p7,k0,k1,k2,k3,k4,k5,k6,k7⟩:=row8c x7
  refine obE_store (w':=w.setCell ⟨Ob,7,none⟩ (.slice A3 (n+1) c3)) (fun k=>k=Ob) (wanted_none rfl) (by unfold execOp;simp only [];rw [e35,e33];go_simp) ((chg_set w Ob 7 _).mono fun k h=>.inr (.inr ⟨rfl,h⟩)) ⟨?_,rfl⟩ (fun k h=>.inl (.inr (.inr ⟨rfl,h⟩)))
  show _=some (outK kk (a.tmps.getD 33 undef))
  rw [q33]
  exact blk_put x7 7 _ rfl
set_option maxRecDepth 100000 in
set_option maxHeartbeats 8000000 in
theorem rb_region {Q:Exit→Act→World→Prop} {id:Nat} {l m:Nat} (hQ:¬ LetsOut Q) (w0:World) (S:Nat→Prop) (Ob Bx gb gf lo g0 g1 n c:Nat) (A:Option Addr) (cells:List Value) (kk b mr:Int) (q:Pl) (x x':Tm) (VF:Value) {s0 s1 s2 s3 s6 s10 s11 s12 s13 s14 s15 s16 s17 s18 s19 s20 s21 s22 s23 s24 s25 s26 s27 s28 s29 s30 s31 s32 s33 s34 s35 s36:Value} (hS:∀ k,S k→k<g0) (hO:w0.heap[Ob]?=some (outK kk (.slice A n c))) (hB:w0.heap[Bx]?=some (tmO q x)) (hb:w0.heap[gb]?=some (.cells #[.int .i64 b] 3 (0,0))) (hf:w0.heap[gf]?=some (.cells #[VF] 68 (0,0))) (hV:w0.ownsRow lo 28 8 (.slice A n c) n cells) (hn:n≤100) (hlo:Ob<lo) (hlz:lo≤w0.heap.size) (hVB:(Value.slice A n c).ownBlock≠some Bx) (hBO:Bx≠Ob) (hbO:gb<Ob) (hfO:gf<Ob) (hg0:g0≤Ob) (hg1:g1≤Ob) (hr:-9223372036854775808≤b+mr∧b+mr≤9223372036854775807) (hIH:∀ w,w0.heap.size≤w.heap.size→(∀ k,k<g1→w.heap[k]?=w0.heap[k]?)→Calls Try.prog 60 #[tmV q x,.int .i64 (b+mr),VF] w (TmGot w S x'))
  (hend:∀ (w':World) (u30:Value) (u32:Value) (u33:Value) (u34:Value) (O9:Nat→Prop) (O11:Nat→Prop) (v12:Value) (O12:Nat→Prop) (v14:Value) (O14:Nat→Prop),Chg (fun k=>(fun k=>(Value.slice A n c).ownBlock=some k) k∨(fun k=>k=Ob) k) w0 w'→(∃ p,u32=.slice (some ⟨p,0,none⟩) 1 1∧w'.heap[p]?=some (.cells zeroC.toArray 28 (0,0))∧O9 p)→(∀ k,O9 k→k<w'.heap.size∧¬ Fix w0 (est2 10 14 (fun k=>(Value.slice A n c).ownBlock=some k) (fun k=>k=Ob)) k)→(∃ g c2,u33=.slice (some ⟨g,0,none⟩) (n+1) c2∧u34=.pointer (some ⟨g,n * 8,none⟩))→(∀ k,O11 k→k<w'.heap.size∧¬ Fix w0 (est2 10 14 (fun k=>(Value.slice A n c).ownBlock=some k) (fun k=>k=Ob)) k)→(RowT S lo n cells x' (u33) w' O12)→(∀ k,O12 k→k<w'.heap.size∧¬ Fix w0 (est2 10 14 (fun k=>(Value.slice A n c).ownBlock=some k) (fun k=>k=Ob)) k)→(w'.heap[Ob]?=some (outK kk (u33))∧O14 Ob)→(∀ k,O14 k→k<w'.heap.size∧¬ Fix w0 (est2 10 14 (fun k=>(Value.slice A n c).ownBlock=some k) (fun k=>k=Ob)) k)→(∀ k,O12 k→¬ O14 k)→Q .normal { tmps:=(s0 :: s1 :: s2 :: s3 :: (.pointer (some ⟨gb,0,none⟩)) :: (.pointer (some ⟨gf,0,none⟩)) :: s6 :: (.pointer (some ⟨Ob,0,none⟩)) :: (.int .i64 mr) :: (.pointer (some ⟨Bx,0,none⟩)) :: s10 :: s11 :: s12 :: s13 :: s14 :: s15 :: s16 :: s17 :: s18 :: s19 :: s20 :: s21 :: s22 :: (.pointer (some ⟨Ob,7,none⟩)) :: (.slice A n c) :: (tmV q x) :: (.int .i64 b) :: (.int .i64 mr) :: (.int .i64 (b+mr)) :: VF :: u30 :: (.int .i64 n) :: u32 :: u33 :: u34 :: (.pointer (some ⟨Ob,7,none⟩)) :: s36 :: []:List Value).toArray,defers:=[] } w') :
  (Code.region id rb_ops.toArray true).wpIn (Fence.wide.inRound l) m Try.prog Q { tmps:=(s0 :: s1 :: s2 :: s3 :: (.pointer (some ⟨gb,0,none⟩)) :: (.pointer (some ⟨gf,0,none⟩)) :: s6 :: (.pointer (some ⟨Ob,0,none⟩)) :: (.int .i64 mr) :: (.pointer (some ⟨Bx,0,none⟩)) :: s10 :: s11 :: s12 :: s13 :: s14 :: s15 :: s16 :: s17 :: s18 :: s19 :: s20 :: s21 :: s22 :: s23 :: s24 :: s25 :: s26 :: s27 :: s28 :: s29 :: s30 :: s31 :: s32 :: s33 :: s34 :: s35 :: s36 :: []:List Value).toArray,defers:=[] } w0:=by
 refine wpIn_region_est hQ (by kernel_rfl) (by kernel_rfl) (est2 10 14 (fun k=>(Value.slice A n c).ownBlock=some k) (fun k=>k=Ob)) rb_C (rb_F w0 S Ob Bx gb gf lo g0 g1 n c A cells kk b mr q x x' VF) (est2_dis (fun k h h2=>by have:=own_base hV k h;have h2:k=Ob:=h2;omega)) (est2_range (fun k hk=>own_lt hV k hk) (fun k hk=>hk ▸ blk_lt hO)) (by rfl) (by kernel_rfl) (rb_obs w0.drew S Ob Bx gb gf lo g0 g1 n c A cells kk b mr q x x' VF (fun k h=>hS k h) hO hB hb hf hV hn hlo hlz hVB hBO hbO hfO hg0 hg1 hr (fun w h1 h2=>hIH w h1 h2) _ _ rfl rfl rfl rfl rfl) ?_
 intro a w' O hd hs hb hf hf2 ha hsame
 have hl:=slots_eq (ops:=rb_ops.toArray) [(23,.pointer (some ⟨Ob,7,none⟩)),(24,.slice A n c),(25,tmV q x),(26,.int .i64 b),(27,.int .i64 mr),(28,.int .i64 (b+mr)),(29,VF),(30,a.tmps.getD 30 undef),(31,.int .i64 n),(32,a.tmps.getD 32 undef),(33,a.tmps.getD 33 undef),(34,a.tmps.getD 34 undef),(35,.pointer (some ⟨Ob,7,none⟩))] (show a.tmps.size=37 from hs) (fun i h=>hsame i h) ⟨(hf 0 _ 23 rfl rfl (by decide)).1,(hf 1 _ 24 rfl rfl (by decide)).1,(hf 2 _ 25 rfl rfl (by decide)).1,(hf 3 _ 26 rfl rfl (by decide)).1,(hf 4 _ 27 rfl rfl (by decide)).1,(hf 5 _ 28 rfl rfl (by decide)).1,(hf 6 _ 29 rfl rfl (by decide)).1,rfl,(hf 8 _ 31 rfl rfl (by decide)).1,rfl,rfl,rfl,(hf 13 _ 35 rfl rfl (by decide)).1,trivial⟩ (by kernel_rfl)
 obtain ⟨tmps,defers⟩:=a
 obtain rfl:defers=[]:=hd
 have hl':tmps=_:=hl
 rw [hl']
 obtain ⟨⟨v12,hv12⟩,ho12⟩:=hf2 12 _ rfl rfl (by decide)
 obtain ⟨⟨v14,hv14⟩,ho14⟩:=hf2 14 _ rfl rfl (by decide)
 have hb':=est2_chg hb
 refine Eq.mp ?_ (hend w' (tmps.getD 30 undef) (tmps.getD 32 undef) (tmps.getD 33 undef) (tmps.getD 34 undef) (O 9) (O 11) v12 (O 12) v14 (O 14) ⟨hb'.os,hb'.tape,hb'.output,hb'.size,hb'.block⟩ (hf 9 _ 32 rfl rfl (by decide)).1 (hf 9 _ 32 rfl rfl (by decide)).2 (hf 11 _ 34 rfl rfl (by decide)).1 (hf 11 _ 34 rfl rfl (by decide)).2 hv12 ho12 hv14 ho14 (ha 12 14 (by decide) (by decide) (by decide) (by decide) (by decide)))
 kernel_rfl

end Go.Proofs.Ytdboloabpjmgaaa

namespace Go.Proofs.Ytdboloabpjmgaaa
open Go.RowKit Go.Proofs.YtdboloabpjmgaaaW.PrintWords Go.RegionInvYtdboloabpjmgaaa

def leafR (t:Tm):Bool:=decide (arZ t.kind<0∨(t.kids.length:Int)<arZ t.kind)
theorem nK_leaf {t:Tm} (h:leafR t=true):nK t=0:=by
 have h':=of_decide_eq_true h
 unfold nK
 split
 ·rfl
 ·omega
def sizeT (t:Tm):Nat:=1+((List.finRange (nK t)).map fun i=>sizeT (kidF t i)).sum
termination_by SizeOf.sizeOf t
decreasing_by exact kidF_lt t i
def depthT (t:Tm):Nat:=1+((List.finRange (nK t)).map fun i=>depthT (kidF t i)).foldr max 0
termination_by SizeOf.sizeOf t
decreasing_by exact kidF_lt t i
def okT (t:Tm):Prop:=sizeT t≤20000∧depthT t≤2000
instance (t:Tm):Decidable (okT t):=by unfold okT;infer_instance
theorem size_leaf {t:Tm} (h:nK t=0):sizeT t=1:=by
 rw [sizeT]
 have:List.finRange (nK t)=[]:=List.eq_nil_of_length_eq_zero (by rw [List.length_finRange];exact h)
 rw [this];rfl
theorem depth_leaf {t:Tm} (h:nK t=0):depthT t=1:=by
 rw [depthT]
 have:List.finRange (nK t)=[]:=List.eq_nil_of_length_eq_zero (by rw [List.length_finRange];exact h)
 rw [this];rfl
theorem max_le_of {l:List Nat} {b:Nat} (h:∀ x∈l,x≤b):l.foldr max 0≤b:=by
 induction l with
 | nil=>exact Nat.zero_le _
 | cons a r ih =>
  rw [List.foldr_cons]
  have h1:=h a (List.mem_cons_self ..)
  have h2:=ih fun x hx=>h x (List.mem_cons_of_mem _ hx)
  omega
theorem le_max_of {l:List Nat} {x:Nat} (h:x∈l):x≤l.foldr max 0:=by
 induction l with
 | nil=>cases h
 | cons a r ih =>
  rw [List.foldr_cons]
  rcases List.mem_cons.1 h with rfl | h
  ·omega
  ·have:=ih h;omega
theorem depth_kid (t:Tm) (i:Fin (nK t)):depthT (kidF t i)+1≤depthT t:=by
 rw [depthT.eq_def t]
 have:=le_max_of (l:=(List.finRange (nK t)).map fun i=>depthT (kidF t i)) (x:=depthT (kidF t i)) (List.mem_map.2 ⟨i,List.mem_finRange i,rfl⟩)
 omega
theorem size_pos (t:Tm):1≤sizeT t:=by rw [sizeT];omega
theorem le_sum_of {l:List Nat} {x:Nat} (h:x∈l):x≤l.sum:=by
 induction l with
 | nil=>cases h
 | cons a r ih =>
  rw [List.sum_cons]
  rcases List.mem_cons.1 h with rfl | h
  ·omega
  ·have:=ih h;omega
theorem size_kid (t:Tm) (i:Fin (nK t)):sizeT (kidF t i)+1≤sizeT t:=by
 rw [sizeT.eq_def t]
 have:=le_sum_of (l:=(List.finRange (nK t)).map fun i=>sizeT (kidF t i)) (x:=sizeT (kidF t i)) (List.mem_map.2 ⟨i,List.mem_finRange i,rfl⟩)
 omega
theorem okT.kid {t:Tm} (h:okT t) (i:Fin (nK t)):okT (kidF t i):=⟨by have:=size_kid t i;have:=h.1;omega,by have:=depth_kid t i;have:=h.2;omega⟩
end Go.Proofs.Ytdboloabpjmgaaa
