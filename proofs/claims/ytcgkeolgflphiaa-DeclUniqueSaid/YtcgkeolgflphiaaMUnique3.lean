/-
  Merged: DrO, DrP, DrQ, LcR, DrR, DrIc, DrJc, DrS, DrT, TkR, DrU, DrId, DrV, DrX, NfF, NfS, Eq, LawDU, WSized.
-/
import Derived.SizedLaws
import Derived.ChangeSlices
import Derived.Test.YtcgkeolgflphiaaMUnique2
namespace Go.Proofs.Ytcgkeolgflphiaa
open Go.RowKit Go.Proofs.YtcgkeolgflphiaaW.PrintWords Go.RegionInvYtcgkeolgflphiaa

theorem infoTmD:(Try.prog.info? 27).map (fun i=>(i.zero,i.size,i.bytes))=some (some (.agg #[.int .i64 0,.int .i64 0,.string ⟨#[]⟩,.int .i64 0,.int .i64 0,.slice none 0 0,.slice none 0 0,.slice none 0 0]),8,120):=by kernel_rfl
set_option maxRecDepth 100000 in
set_option maxHeartbeats 8000000 in
theorem term_step (f:Nat) (IH0:∀ (g:Nat) (xs:List Int) (N m d:Int) (w:World),1≤d→(f:Int)+d=65→0≤N→N≤400→RdOk w g xs N m→Calls Try.prog 107 #[.pointer (some ⟨g,0,none⟩),.int .i64 d] w (TmRd w g (tmR f xs N)))
  (g:Nat) (xs r:List Int) (N m d k:Int) (w:World) (hd0:1≤d) (hd:(f:Int)+1+d=65) (hm0:0≤N) (hm1:N<400) (h:RdOk w g xs N m) (hK:kindR 7 xs=.ok (k,r)) :
  Calls Try.prog 107 #[.pointer (some ⟨g,0,none⟩),.int .i64 d] w (TmRd w g (tmR (f+1) xs N)):=by
 have HK:=Ak hK
 have HR:=Ak h
 have HGL:=Ak h.lt
 have IH:=Ak IH0
 have hk:=(kind_put hK).2
 have hd1:d≤64:=by omega
 have HBY:=Ak (h.bytes.right (ys:=[k]) (zs:=r) (kind_put hK).1)
 clear h hK IH0
 go_enter Try.func107,Try.ntmps107
 go_upto_region 2 with (go_at_call 86;go_must (refine (kind_calls g xs N m 7 _ (HR.out.below (below_alloc (Below.refl _ _) _)) (by decide) (by decide)).mono ?_;rintro e w2 ⟨hc,hm⟩;rw [HK.out] at hm;obtain ⟨rfl,hok⟩:=hm;have HBX:=Ak (tmBx_new (k:=k) HGL.out hc);have HOK:=Ak (RdOk.below hok (below_alloc (Below.refl _ _) (tzO k)));clear hc hok))
 obtain ⟨gO,hgO⟩:∃ gO,gO=w2.heap.size:=⟨_,rfl⟩
 rw [← hgO] at HBX ⊢
 obtain ⟨W3,hW3⟩:∃ W3,W3=w2.alloc (tzO k):=⟨_,rfl⟩
 rw [← hW3] at HBX HOK ⊢
 have HSO:=Ak (show gO<W3.heap.size by rw [hW3,hgO];simp)
 clear hW3 hgO
 obtain ⟨A3,n3,c3',hg3,hs3⟩:=HOK.out
 obtain ⟨c0,c1,c2,c3,z0,z1,z2,z3⟩:=row4 hg3
 have HG3:=Ak hg3
 have HS3:=Ak hs3
 clear hg3 hs3
 go_upto_region 3 with (fail)
 have hmm0:0≤N+1:=by omega
 have hmm1:N+1≤400:=by omega
 obtain ⟨mm,hmm⟩:∃ mm,mm=N+1:=⟨_,rfl⟩
 rw [← hmm] at hmm0 hmm1 ⊢
 have HMM:=Ak hmm
 clear c0 c1 c2 c3 z0 z1 z2 z3 hmm
 have HG4:=Ak (rd4_1 (x:=.int .i64 mm) HG3.out)
 have HB4:=Ak (HBX.out.reader (chg_set W3 g 1 (.int .i64 mm)))
 have HS4:=Ak (HS3.out.chg (Nat.le_of_lt (blk_lt HG3.out)) (fun k e=>Nat.le_of_eq e.symm) (chg_set W3 g 1 (.int .i64 mm)))
 obtain ⟨W4,hW4⟩:∃ W4,W4=W3.setCell ⟨g,1,none⟩ (.int .i64 mm):=⟨_,rfl⟩
 rw [← hW4] at HG4 HB4 HS4 ⊢
 have HSO4:=Ak (show gO<W4.heap.size by rw [hW4,World.size_setCell];exact HSO.out)
 clear hW4 HBX HG3 HOK HS3 HSO
 obtain ⟨c0,c1,c2,c3,z0,z1,z2,z3⟩:=row4 HG4.out
 have hd':decide (64<d)=false:=decide_eq_false (by omega)
 have hm':decide (400<mm)=false:=decide_eq_false (by omega)
 go_upto_region 5 with (go_at_call 104;go_must (refine (fail_no g A3 n3 c3' mm m 2 _ HG4.out).mono ?_;rintro e w' ⟨rfl,hw⟩;subst hw))
 have HOK:=Ak (show RdOk w' g r mm m from ⟨A3,n3,c3',HG4.out,HS4.out⟩)
 clear HG4 HS4 c0 c1 c3 z0 z1 z3
 obtain ⟨⟨d0,d1,d2,d3,d4,d5,d6,d7⟩,y0,y1,y2,y3,y4,y5,y6,y7⟩:=row8t HB4.out.out
 obtain ⟨K,hKK⟩:∃ K,K=tmKids k:=⟨_,rfl⟩
 have HKK:=Ak hKK
 go_upto_block 0 with (fail)
 go_cut [6] (fun u w5=>u=.int .i64 K∧∃ o p,Aside0 (TmBx w w5 g gO k o p (.slice none 0 0))∧Aside0 (OwnSt w5 g mm o (tmOwn k r))∧Aside0 (0<tmKids k→o=o0∧p=pl0))
 case first =>
  by_cases k1:k=1
  ·subst k1
   rw [show tmKids 1=0 from rfl] at hKK
   subst hKK
   go_wp2_with (go_at_call 88;go_must (refine (number_calls g r mm m _ HOK.out).mono ?_;rintro e w6 hp;obtain ⟨n6,rfl,hn6,hc,hst⟩:=NumPost.one hp;have HB6:=Ak (HB4.out.reader hc);have HST:=Ak hst;have HN6:=Ak hn6;clear hn6 hc hst hp;obtain ⟨⟨-,a1,-⟩,-,b1,-⟩:=row8t HB6.out.out))
   go_meet
   case rel=>exact ⟨rfl,own_num HBY.out HB6.out HN6.out HST.out⟩
  ·have hk1:(k == 1)=false:=by simp [k1]
   by_cases k2:k=2
   ·subst k2
    rw [show tmKids 2=0 from rfl] at hKK
    subst hKK
    go_upto_region 11 with (fail)
    have HR5:=Ak (HOK.out.setm 0)
    have HB5:=Ak (HB4.out.reader (chg_set w' g 2 (.int .i64 0)))
    obtain ⟨W5,hW5⟩:∃ W5,W5=w'.setCell ⟨g,2,none⟩ (.int .i64 0):=⟨_,rfl⟩
    rw [← hW5] at HR5 HB5 ⊢
    have HSO5:=Ak (show gO<W5.heap.size by rw [hW5,World.size_setCell];exact HSO4.out)
    clear hW5
    go_wp2_with (go_at_call 119;go_must (refine (level_calls 32 g r mm 0 1 _ (by decide) (by decide) (by decide) (by decide) HR5.out).mono ?_;rintro e w6 ⟨A6,c6,l6,rfl,hl6,hc6,hst6⟩;have HB6:=Ak (HB5.out.reader hc6);have HL6:=Ak hl6;have HST6:=Ak hst6;clear hl6 hc6 hst6;simp only [lvV];obtain ⟨⟨-,-,-,a3,a4,a5,-⟩,-,-,-,b3,b4,b5,-⟩:=row8t HB6.out.out))
    go_meet
    case rel=>exact ⟨rfl,own_lv HB6.out HL6.out HSO5.out HST6.out⟩
   ·have hk2:(k == 2)=false:=by simp [k2]
    by_cases k7:k=7
    ·have HK7:=Ak k7
     have hk7:(k == 7)=true:=by simp [k7]
     rw [show tmKids k=0 by rw [k7];rfl] at hKK
     subst hKK
     clear k1 k2 k7
     go_upto_region 14 with (go_at_call 87;go_must (refine (rname_calls g r mm m _ HOK.out).mono ?_;rintro e w6 ⟨s6,rfl,hsz,hc6,hst6⟩;have HB6:=Ak (HB4.out.reader hc6);have HSZ:=Ak hsz;have HST6:=Ak hst6;have HZ6:=Ak hc6.size;clear hsz hc6 hst6;obtain ⟨⟨-,-,a2,-⟩,-,-,b2,-⟩:=row8t HB6.out.out))
     have HBN:=Ak (show TmBx w (w6.setCell ⟨gO,2,none⟩ (.string s6)) g gO k ⟨0,s6,.mk 0 0 [],[]⟩ pl0 (.slice none 0 0) by have h:=HB6.out;rw [HK7.out] at h ⊢;exact h.named HSZ.out)
     have HSN:=Ak (HST6.out.chg (S:=fun k=>k=gO) (fun k e=>by have:=HB6.out.far;have:=HB6.out.glt;omega) (chg_set w6 gO 2 (.string s6)))
     obtain ⟨W7,hW7⟩:∃ W7,W7=w6.setCell ⟨gO,2,none⟩ (.string s6):=⟨_,rfl⟩
     rw [← hW7] at HBN HSN ⊢
     have HSO7:=Ak (show gO<W7.heap.size by rw [hW7,World.size_setCell];exact Nat.lt_of_lt_of_le HSO4.out HZ6.out)
     clear hW7
     cases hR7:nameR r with
     | error er =>
      have hbad:=HSN.out
      rw [hR7] at hbad
      have HBAD:=Ak hbad
      have HNE:=Ak (name_err hR7)
      have HR7:=Ak hR7
      clear hR7 hbad
      go_wp2_with (go_at_call 120;go_must (refine (listOfLv_bad g er 6 _ HBAD.out HNE.out).mono ?_;rintro e w8 ⟨rfl,hb8⟩;have HB8:=Ak (HBN.out.below hb8);have HBAD8:=Ak (HBAD.out.below hb8);clear hb8;obtain ⟨⟨-,-,-,-,-,-,a6,-⟩,-,-,-,-,-,-,b6,-⟩:=row8t HB8.out.out))
      go_meet
      case rel=>exact ⟨rfl,own_const_bad HK7.out HB8.out HR7.out HBAD8.out⟩
     | ok y =>
      obtain ⟨s',r0⟩:=y
      have hok:=HSN.out
      rw [hR7] at hok
      have HOK7:=Ak hok
      have HR7:=Ak hR7
      clear hR7 hok
      go_wp2_with (go_at_call 120;go_must (refine (listOfLv_calls g r0 mm m 6 _ HOK7.out.2 (by decide) (by decide)).mono ?_;rintro e w8 ⟨V8,l8,rfl,hrow,hc8,hst8⟩;obtain ⟨B8,d8,rfl,hl8⟩:=rowLv_level hrow;have HL8:=Ak hl8;have HST8:=Ak hst8;have HB8:=Ak (HBN.out.reader hc8);clear hrow hl8 hc8 hst8;obtain ⟨⟨-,-,-,-,-,-,a6,-⟩,-,-,-,-,-,-,b6,-⟩:=row8t HB8.out.out))
      go_meet
      case rel=>exact ⟨rfl,own_const HK7.out HB8.out HR7.out HOK7.out.1 HL8.out HSO7.out HST8.out⟩
    ·have hk7:(k == 7)=false:=by simp [k7]
     have HNO:=Ak (own_none (N:=mm) k1 k2 k7 HB4.out HOK.out)
     by_cases k5:k=5
     ·rw [show tmKids k=3 by rw [k5];rfl] at hKK
      subst hKK
      have hk5:(k == 5)=true:=by simp [k5]
      clear k1 k2 k7 k5
      go_wp2
      go_meet
      case rel=>exact ⟨rfl,HNO.out⟩
     ·rw [show tmKids k=2 by unfold tmKids;rw [if_neg (by omega),if_neg k5]] at hKK
      subst hKK
      have hk5:(k == 5)=false:=by simp [k5]
      clear k1 k2 k7 k5
      go_wp2
      go_meet
      case rel=>exact ⟨rfl,HNO.out⟩
 case rest =>
  obtain ⟨rfl,o,p,HB5,HST5,HOP⟩:=hcut
  clear c2 z2 d0 d1 d2 d3 d4 d5 d6 d7 y0 y1 y2 y3 y4 y5 y6 y7 HB4 HOK hd' hm'
  have hK3:K≤3:=by rw [hKK];exact tmKids_le k
  have HOWN:=Ak (show ∀ o' r',tmOwn k r=.ok (o',r')→o=o' from fun o' r' h=>by have h2:=HST5.out;rw [h] at h2;exact h2.1)
  clear hKK
  go_wp2
  go_loopw [55] (fun i wr=>∃ (j:Nat) (V:Value) (l:List Tm),i=.int .i64 j∧j≤K∧Aside0 (TmLoop w wr g gO k o p V l (tmPre f (tmOwn k r) mm j) j)) (fun i _=>K - (intOf i).toNat)
  case atStart=>exact ⟨0,_,_,rfl,Nat.zero_le _,⟨tmLoop_start HB5.out HST5.out⟩⟩
  case round =>
   obtain ⟨j,V,l,rfl,hj,HL⟩:=hrel
   by_cases hlt:j<K
   ·obtain ⟨ho,hp⟩:=HOP.out (by rw [← HKK.out];omega)
    subst ho
    subst hp
    cases hP:tmPre f (tmOwn k r) mm j with
    | error e =>
     have hst:=HL.out.st
     rw [hP] at hst
     obtain ⟨A6,n6,c6,N6,m6,hg6⟩:=hst
     have he':(e == 0)=false:=by simp [tmPre_ne hP]
     obtain ⟨b0,b1,b2,b3,-,-,-,-⟩:=row4 hg6
     have HN:=Ak (tmLoop_same HL.out hP)
     clear hg6 hP
     go_wp2
     go_roundw
     case rel=>exact ⟨j+1,V,l,by go_num,by omega,HN⟩
     case measure=>(simp [intOf];try omega)
    | ok x =>
     obtain ⟨l',r1,m1⟩:=x
     have hst:=HL.out.st
     rw [hP] at hst
     obtain ⟨-,mx,hok⟩:=hst
     have HOK:=Ak hok
     have hgr:=tmPre_grow hP hmm0 hmm1
     have HP:=Ak (show tmPre f (tmOwn k r) mm j=.ok (l,r1,m1) by rw [hP];have:=HL.out.st;rw [hP] at this;rw [this.1])
     have hlen:=HL.out.len
     obtain ⟨A6,n6,c6,hg6,-⟩:=hok
     obtain ⟨b0,b1,b2,b3,-,-,-,-⟩:=row4 hg6
     obtain ⟨⟨-,-,-,-,-,-,-,hcv⟩,-,-,-,-,-,-,-,hcz⟩:=row8t HL.out.bx.out
     clear hP hg6 b0 b1 b2
     go_upto_block 2 with (fail)
     go_cut [] (fun w5=>∃ v5 l5,Aside0 (TmLoop w w5 g gO k o0 pl0 v5 l5 (tmPre f (tmOwn k r) mm (j+1)) (j+1)))
     case first =>
      go_upto_region 20 with (fail)
      have hw9:IntKind.i64.wrap (d+1)=d+1:=IntWalk.i64_in _ (by omega)
      go_region_law (first
       | (go_simp;go_at_call 107;(try rw [hw9]);refine (IH.out g r1 m1 mx (d+1) _ (by omega) (by omega) hgr.1 hgr.2 (HOK.out.below (by repeat' first | exact Below.refl _ _ | apply below_drew | apply below_alloc))).mono ?_;rintro e w5 ⟨q5,t5,rfl,hl5,hc5,hm5⟩;have ST5:=Ak (tin_in HL.out.bx HL.out.kids (by repeat' first | exact Below.refl _ _ | apply below_drew | apply below_alloc) hc5 hl5);have HST5:=Ak (tmLoop_next HP.out hm5);have hcv5:=ST5.out.cell;have hcz5:=blk_frozen ST5.out.bx.out 7;have hcw5:=ST5.out.cell2 (.cells #[.int .i64 t5.kind,.int .i64 t5.num,.string t5.name,.int .i64 t5.lv.kind,.int .i64 t5.lv.num,.slice q5.A t5.lv.kids.length q5.c,.slice q5.B t5.ls.length q5.d,.slice q5.K t5.kids.length q5.e] 27 (0,0));clear hl5 hc5 hm5;simp only [tmV])
       | (first
         | (have STA:=Ak ST5.out;obtain ⟨cells,qq,hown,hkids⟩:=STA.out.kids;refine step_append_cells (w0:=w5) (W:=w5) (gO+1) (by simp [Region.wanted]) (.tmp 63) (.tmp 68) 25 27 _ 8 120 rfl Try.underlying25 infoTmD rfl (by decide) (by decide) V l.length cells (tmC q5 t5) rfl rfl rfl (List.all_eq_true.1 rfl) hown (Below.refl _ _) STA.out.size (by omega) ?_;intro v6 w6 ho6 _ hg6 hat6;obtain ⟨A6,c6,rfl⟩:=own_slice ho6;have ST6:=Ak (tin_push STA.out hown hkids ho6 hg6 hat6);have HSTX:=Ak (HST5.out.chg (S:=fun _=>False) (fun _ h=>h.elim) (Chg.of_below (by repeat' first | exact Below.refl _ _ | apply below_drew)):TmLt w5 g (l ++ [t5]) (tmPre f (tmOwn k r) mm (j+1)));have hcv6:=ST6.out.cell;have hcz6:=blk_frozen ST6.out.bx.out 7;clear hown hkids ho6 hg6 hat6 STA)
         | (have STA:=Ak ST5.out.drew;obtain ⟨cells,qq,hown,hkids⟩:=STA.out.kids;refine step_append_cells (w0:=w5.drew) (W:=w5.drew) (gO+1) (by simp [Region.wanted]) (.tmp 63) (.tmp 68) 25 27 _ 8 120 rfl Try.underlying25 infoTmD rfl (by decide) (by decide) V l.length cells (tmC q5 t5) rfl rfl rfl (List.all_eq_true.1 rfl) hown (Below.refl _ _) STA.out.size (by omega) ?_;intro v6 w6 ho6 _ hg6 hat6;obtain ⟨A6,c6,rfl⟩:=own_slice ho6;have ST6:=Ak (tin_push STA.out hown hkids ho6 hg6 hat6);have HSTX:=Ak (HST5.out.chg (S:=fun _=>False) (fun _ h=>h.elim) (Chg.of_below (by repeat' first | exact Below.refl _ _ | apply below_drew)):TmLt w5.drew g (l ++ [t5]) (tmPre f (tmOwn k r) mm (j+1)));have hcv6:=ST6.out.cell;have hcz6:=blk_frozen ST6.out.bx.out 7;clear hown hkids ho6 hg6 hat6 STA)
         | (trace_state;fail)))
      all_goals (go_wp2;go_meet)
      all_goals (exact tout_fin ST6.out HSTX.out (by simp only [List.length_append,List.length_singleton];omega))
     case rest =>
      clear HL hcv hcz b3 HOK HP hlen
      obtain ⟨V2,l2,HL⟩:=hcut
      go_wp2
      go_roundw
      case rel=>exact ⟨j+1,V2,l2,by go_num,by omega,HL⟩
      case measure=>(simp [intOf];try omega)
   ·obtain rfl:j=K:=by omega
    have hlt':decide ((j:Int)<j)=false:=by simp
    obtain ⟨A9,c9,rfl,-⟩:=rowTm_term HL.out.kids
    obtain ⟨L9,hL9⟩:∃ L9,L9=l.length:=⟨_,rfl⟩
    rw [← hL9] at HL
    have HL9:=Ak hL9
    obtain ⟨⟨d0,d1,d2,d3,d4,d5,d6,d7⟩,-⟩:=row8t HL.out.bx.out
    obtain ⟨⟨e0,e1,e2,e3,e4,e5,e6,e7⟩,x0,x1,x2,x3,x4,x5,x6,x7⟩:=row8t HL.out.bx.res
    clear hL9
    go_wp2
    refine bodyPost_ret (results_c rfl _ _ w.heap.size 27 #[.int .i64 k,.int .i64 o.n,.string o.s,.int .i64 o.lv.kind,.int .i64 o.lv.num,.slice p.A o.lv.kids.length p.c,.slice p.B o.ls.length p.d,.slice A9 L9 c9] (0,0) _ rfl (set8 HL.out.bx.res) Try.underlying27 rfl (by kernel_rfl)) rfl ?_
    have HLX:=HL.out
    rw [HMM.out] at HLX
    exact tmLoop_end HK.out (by omega) HKK.out HLX HL9.out HOWN.out (chg_set8 _ _ _ _ _ _ _ _ _ _)
theorem term_calls:∀ (f:Nat) (g:Nat) (xs:List Int) (N m d:Int) (w:World),1≤d→(f:Int)+d=65→0≤N→N≤400→RdOk w g xs N m→Calls Try.prog 107 #[.pointer (some ⟨g,0,none⟩),.int .i64 d] w (TmRd w g (tmR f xs N))
 | f,g,xs,N,m,d,w,hd1,hd,h0,h1,h=>by
  cases hK:kindR 7 xs with
  | error er =>
   have e:tmR f xs N=.error er:=by cases f <;> rw [tmR,hK]
   rw [e]
   refine term_bad g d er w (fun W hc=>(kind_calls g xs N m 7 W (h.below hc) (by decide) (by decide)).mono ?_) h.lt (kind_err hK)
   rintro e w' ⟨hc,hm⟩
   rw [hK] at hm
   exact ⟨hm.1,hc,hm.2⟩
  | ok x =>
   obtain ⟨k,r⟩:=x
   cases f with
   | zero =>
    rw [tmR,hK]
    exact term_deep g xs r N m d k w h hK h0 h1 (.inl (by omega))
   | succ f =>
    by_cases hm:400<N+1
    ·rw [tmR,hK]
     simp only []
     rw [if_pos hm]
     exact term_deep g xs r N m d k w h hK h0 h1 (.inr hm)
    ·exact term_step f (term_calls f) g xs r N m d k w hd1 (by omega) h0 (by omega) h hK
end Go.Proofs.Ytcgkeolgflphiaa

namespace Go.Proofs.Ytcgkeolgflphiaa
open Go.RowKit Go.Proofs.YtcgkeolgflphiaaW.PrintWords Go.RegionInvYtcgkeolgflphiaa

def RS (W:World) (g:Nat):Except Int (List Int)→Prop
 | .ok xs=>∃ N m,RdOk W g xs N m
 | .error e=>e≠0∧RdBad W g e
def nextR {α:Type} (s:Except Int (List Int)) (f:List Int→Except Int (α × List Int)):Except Int (α × List Int):=match s with
 | .error e=>.error e
 | .ok xs=>f xs
def restR {α:Type}:Except Int (α × List Int)→Except Int (List Int)
 | .error e=>.error e
 | .ok (_,r)=>.ok r
def valIs {α:Type} (x:α):Except Int (α × List Int)→Prop
 | .error _=>True
 | .ok (y,_)=>x=y
theorem RS.chg {W W':World} {g:Nat} {s:Except Int (List Int)} {S:Nat→Prop} (h:RS W g s) (hS:∀ k,S k→g<k) (hc:Chg S W W'):RS W' g s:=by
 cases s with
 | error e=>exact ⟨h.1,h.2.chg hS hc⟩
 | ok x=>obtain ⟨N,m,h⟩:=h;exact ⟨N,m,h.chg hS hc⟩
theorem RS.below {W W':World} {g:Nat} {s:Except Int (List Int)} (h:RS W g s) (hb:Below W.heap.size W W'):RS W' g s:=h.chg (S:=fun _=>False) (fun _ h=>h.elim) (Chg.of_below hb)
theorem RS.lt {W:World} {g:Nat} {s:Except Int (List Int)} (h:RS W g s):g<W.heap.size:=by
 cases s with
 | error e=>exact h.2.lt
 | ok x=>obtain ⟨N,m,h⟩:=h;exact h.lt
def BoxOf (W:World) (g:Nat) (A:Option Addr) (n c:Nat) (e:Int):Except Int (List Int)→Prop
 | .ok xs=>e=0∧Bs W g A n c xs
 | .error k=>e=k∧k≠0
theorem RS.box {W:World} {g:Nat} {s:Except Int (List Int)} (h:RS W g s):∃ A n c N m e,W.heap[g]?=some (rdB A n c N m e)∧BoxOf W g A n c e s:=by
 cases s with
 | error e=>obtain ⟨h0,A,n,c,N,m,hb⟩:=h;exact ⟨A,n,c,N,m,e,hb,rfl,h0⟩
 | ok x=>obtain ⟨N,m,A,n,c,hb,hs⟩:=h;exact ⟨A,n,c,N,m,0,hb,rfl,hs⟩
theorem kind_any (g:Nat) (s:Except Int (List Int)) (most:Int) (w:World) (h:RS w g s) (h1:1≤most) (h2:most≤255) :
  Calls Try.prog 86 #[.pointer (some ⟨g,0,none⟩),.int .i64 most] w fun e w'=>∃ k,e=.returned (.int .i64 k)∧Chg (fun k=>k=g) w w'∧RS w' g (restR (nextR s (kindR most)))∧valIs k (nextR s (kindR most)):=by
 cases s with
 | error er =>
  refine (kind_bad g er most w h.2 h.1).mono ?_
  rintro e w' ⟨rfl,hw⟩
  subst hw
  exact ⟨0,rfl,Chg.refl _ _,h,trivial⟩
 | ok xs =>
  obtain ⟨N,m,h⟩:=h
  refine (kind_calls g xs N m most w h h1 h2).mono ?_
  rintro e w' ⟨hc,hm⟩
  show ∃ k,_∧_∧RS w' g (restR (kindR most xs))∧valIs k (kindR most xs)
  cases hK:kindR most xs with
  | error er=>rw [hK] at hm;exact ⟨0,hm.1,hc,⟨kind_err hK,hm.2⟩,trivial⟩
  | ok y=>rw [hK] at hm;exact ⟨y.1,hm.1,hc,⟨N,m,hm.2⟩,rfl⟩
theorem num_any (g:Nat) (s:Except Int (List Int)) (w:World) (h:RS w g s) :
  Calls Try.prog 88 #[.pointer (some ⟨g,0,none⟩)] w fun e w'=>∃ k,e=.returned (.int .i64 k)∧Chg (fun k=>k=g) w w'∧RS w' g (restR (nextR s numR))∧valIs k (nextR s numR):=by
 cases s with
 | error er =>
  refine (number_bad g er w h.2 h.1).mono ?_
  rintro e w' ⟨rfl,hw⟩
  subst hw
  exact ⟨0,rfl,Chg.refl _ _,h,trivial⟩
 | ok xs =>
  obtain ⟨N,m,h⟩:=h
  refine (number_calls g xs N m w h).mono ?_
  rintro e w' ⟨hc,hm⟩
  show ∃ k,_∧_∧RS w' g (restR (numR xs))∧valIs k (numR xs)
  cases hK:numR xs with
  | error er=>rw [hK] at hm;exact ⟨0,hm.1,hc,⟨num_err hK,hm.2⟩,trivial⟩
  | ok y=>rw [hK] at hm;exact ⟨y.1,hm.1,hc,⟨N,m,hm.2⟩,rfl⟩
theorem name_any (g:Nat) (s:Except Int (List Int)) (w:World) (h:RS w g s) :
  Calls Try.prog 87 #[.pointer (some ⟨g,0,none⟩)] w fun e w'=>∃ k,e=.returned (.string k)∧k.size≤140737488355328∧Chg (fun k=>k=g) w w'∧RS w' g (restR (nextR s nameR))∧valIs k (nextR s nameR):=by
 cases s with
 | error er =>
  refine (name_bad g er w h.2 h.1).mono ?_
  rintro e w' ⟨rfl,hw⟩
  subst hw
  exact ⟨_,rfl,by decide,Chg.refl _ _,h,trivial⟩
 | ok xs =>
  obtain ⟨N,m,h⟩:=h
  refine (rname_calls g xs N m w h).mono ?_
  rintro e w' ⟨k,he,hsz,hc,hm⟩
  show ∃ k,_∧_∧_∧RS w' g (restR (nameR xs))∧valIs k (nameR xs)
  cases hK:nameR xs with
  | error er=>rw [hK] at hm;exact ⟨k,he,hsz,hc,⟨name_err hK,hm⟩,trivial⟩
  | ok y=>rw [hK] at hm;exact ⟨k,he,hsz,hc,⟨N,m,hm.2⟩,hm.1⟩
def AnyTm (w:World) (g:Nat) (R:Except Int (Tm × List Int)) (e:Ending) (w':World):Prop:=
 ∃ p t,e=.returned (tmV p t)∧TmS w' (fun b=>w.heap.size≤b) p t∧Chg (fun k=>k=g) w w'∧RS w' g (restR R)∧valIs t R
theorem tmRd_any {w:World} {g:Nat} {R:Except Int (Tm × List Int × Int)} {R2:Except Int (Tm × List Int)} (h1:∀ k,R=.error k→R2=.error k∧k≠0) (h2:∀ t r m,R=.ok (t,r,m)→R2=.ok (t,r)) {e:Ending} {w':World} (h:TmRd w g R e w'):AnyTm w g R2 e w':=by
 obtain ⟨p,t,he,ht,hc,hs⟩:=h
 refine ⟨p,t,he,ht,hc,?_⟩
 cases R with
 | error k=>rw [(h1 k rfl).1];exact ⟨⟨(h1 k rfl).2,hs⟩,trivial⟩
 | ok y=>obtain ⟨m,hm⟩:=hs.2;rw [h2 y.1 y.2.1 y.2.2 rfl];exact ⟨⟨_,m,hm⟩,hs.1⟩
def RSn (W:World) (g:Nat):Except Int (List Int)→Prop
 | .ok xs=>∃ m,RdOk W g xs 0 m
 | .error e=>e≠0∧RdBad W g e
theorem RS.setn {W:World} {g:Nat} {s:Except Int (List Int)} (h:RS W g s):RSn (W.setCell ⟨g,1,none⟩ (.int .i64 0)) g s:=by
 cases s with
 | error e=>exact ⟨h.1,h.2.setn 0⟩
 | ok xs=>obtain ⟨N,m,h⟩:=h;exact ⟨m,h.setn 0⟩
theorem term_any (g:Nat) (s:Except Int (List Int)) (w:World) (h:RSn w g s) :
  Calls Try.prog 107 #[.pointer (some ⟨g,0,none⟩),.int .i64 1] w (AnyTm w g (nextR s wholeR)):=by
 cases s with
 | error er =>
  refine (term_bad g 1 er w (fun W hc=>(kind_bad g er 7 W (h.2.below hc) h.1).mono ?_) h.2.lt h.1).mono fun e w' hp=>tmRd_any (R2:=.error er) (fun k hk=>by cases hk;exact ⟨rfl,h.1⟩) (fun t r m hk=>by cases hk) hp
  rintro e w' ⟨rfl,hw⟩
  subst hw
  exact ⟨rfl,Chg.refl _ _,h.2.below hc⟩
 | ok xs =>
  obtain ⟨m,h⟩:=h
  refine (term_calls 64 g xs 0 m 1 w (by decide) (by decide) (by decide) (by decide) h).mono fun e w' hp=>tmRd_any (R2:=wholeR xs) (fun k hk=>?_) (fun t r m hk=>?_) hp
  ·unfold wholeR;rw [hk];exact ⟨rfl,tm_err 64 hk⟩
  ·unfold wholeR;rw [hk]
theorem anyTm_out {w W0 w5:World} {g:Nat} {R:Except Int (Tm × List Int)} {p:Pl} {t:Tm} (hg:g<w.heap.size) (hz:W0.heap.size=w.heap.size+1) (h0:Chg (fun k=>k=g) w W0) (h1:TmS w5 (fun b=>W0.heap.size≤b) p t) (h2:Chg (fun k=>k=g) W0 w5)
  (h3:RS w5 g (restR R)) (h4:valIs t R) (W':World) (hch:Chg (fun k=>k=w.heap.size) w5 W'):AnyTm w g R (.returned (tmV p t)) W':=by
 have h02:=chg_trans h0 h2
 have hs:=h2.size
 refine ⟨p,t,rfl,(h1.same fun k hk _=>hch.block k (by omega) (by omega)).mono fun k hk _=>by omega,⟨hch.os.trans h02.os,hch.tape.trans h02.tape,hch.output.trans h02.output,Nat.le_trans h02.size hch.size,fun i hi hs=>?_⟩,?_,h4⟩
 ·rw [hch.block i (Nat.lt_of_lt_of_le hi h02.size) (by omega),h02.block i hi hs]
 ·exact h3.chg (S:=fun k=>k=w.heap.size) (fun k e=>by omega) hch
set_option maxHeartbeats 4000000 in
theorem whole_any (g:Nat) (s:Except Int (List Int)) (w:World) (h:RS w g s) :
  Calls Try.prog 89 #[.pointer (some ⟨g,0,none⟩)] w (AnyTm w g (nextR s wholeR)):=by
 have HGL:=Ak h.lt
 have HR0:=Ak (h.below (below_alloc (Below.refl _ _) (tzO 0)))
 have HX0:=Ak (blk_new w (tzO 0))
 have HB0:=Ak (below_alloc (Below.refl w.heap.size w) (tzO 0))
 have HZ0:=Ak (show (w.alloc (tzO 0)).heap.size=w.heap.size+1 by simp)
 clear h
 go_enter Try.func89,Try.ntmps89
 go_upto_region 1 with (fail)
 obtain ⟨W0,hW0⟩:∃ W0,W0=w.alloc (tzO 0):=⟨_,rfl⟩
 rw [← hW0] at HR0 HX0 HB0 HZ0 ⊢
 clear hW0
 obtain ⟨A,n,c,N,m,er,hg,hsem⟩:=HR0.out.box
 obtain ⟨c0,c1,c2,c3,z0,z1,z2,z3⟩:=row4 hg
 clear hg hsem
 go_upto_region 2 with (fail)
 have HR1:=Ak HR0.out.setn
 have HX1:=Ak (((chg_set W0 g 1 (.int .i64 0)).block _ (blk_lt HX0.out) (by have:=HGL.out;omega)).trans HX0.out)
 have HC1:=Ak (show Chg (fun k=>k=g) w (W0.setCell ⟨g,1,none⟩ (.int .i64 0)) from chg_trans (Chg.of_below HB0.out) (chg_set _ _ _ _))
 have HZ1:=Ak (show (W0.setCell ⟨g,1,none⟩ (.int .i64 0)).heap.size=w.heap.size+1 by rw [World.size_setCell];exact HZ0.out)
 obtain ⟨W1,hW1⟩:∃ W1,W1=W0.setCell ⟨g,1,none⟩ (.int .i64 0):=⟨_,rfl⟩
 rw [← hW1] at HR1 HX1 HC1 HZ1 ⊢
 clear hW1 c0 c1 c2 c3 z0 z1 z2 z3 HR0 HX0 HB0 HZ0
 go_wp2_with (go_at_call 107;go_must (refine (term_any g s _ HR1.out).mono ?_;rintro e w5 ⟨p5,t5,rfl,hl5,hc5,hm5,hv5⟩;have HX5:=Ak ((hc5.block _ (blk_lt HX1.out) (by have:=HGL.out;omega)).trans HX1.out);have HL5:=Ak hl5;have HC5:=Ak hc5;have HM5:=Ak hm5;have HV5:=Ak hv5;clear hl5 hc5 hm5 hv5;obtain ⟨⟨e0,e1,e2,e3,e4,e5,e6,e7⟩,x0,x1,x2,x3,x4,x5,x6,x7⟩:=row8t HX5.out;simp only [tmV]))
 refine bodyPost_ret (results_c rfl _ _ w.heap.size 27 #[.int .i64 t5.kind,.int .i64 t5.num,.string t5.name,.int .i64 t5.lv.kind,.int .i64 t5.lv.num,.slice p5.A t5.lv.kids.length p5.c,.slice p5.B t5.ls.length p5.d,.slice p5.K t5.kids.length p5.e] (0,0) _ rfl (set8 HX5.out) Try.underlying27 rfl (by kernel_rfl)) rfl ?_
 exact anyTm_out HGL.out HZ1.out HC1.out HL5.out HC5.out HM5.out HV5.out _ (chg_set8 _ _ _ _ _ _ _ _ _ _)
end Go.Proofs.Ytcgkeolgflphiaa

namespace Go.Proofs.Ytcgkeolgflphiaa
open Go.RowKit Go.Proofs.YtcgkeolgflphiaaW.PrintWords Go.RegionInvYtcgkeolgflphiaa

theorem set9 {w:World} {g:Nat} {x0 x1 x2 x3 x4 x5 x6 x7 x8 a0 a1 a2 a3 a4 a5 a6 a7 a8:Value} {t:TypeId} (h:w.heap[g]?=some (.cells #[x0,x1,x2,x3,x4,x5,x6,x7,x8] t (0,0))) :
  (((((((((w.setCell ⟨g,0,none⟩ a0).setCell ⟨g,1,none⟩ a1).setCell ⟨g,2,none⟩ a2).setCell ⟨g,3,none⟩ a3).setCell ⟨g,4,none⟩ a4).setCell ⟨g,5,none⟩ a5).setCell ⟨g,6,none⟩ a6).setCell ⟨g,7,none⟩ a7).setCell ⟨g,8,none⟩ a8).heap[g]?=some (.cells #[a0,a1,a2,a3,a4,a5,a6,a7,a8] t (0,0)):=by
 have h0:(w.setCell ⟨g,0,none⟩ a0).heap[g]?=some (.cells #[a0,x1,x2,x3,x4,x5,x6,x7,x8] t (0,0)):=blk_put h 0 a0 rfl
 have h1:((w.setCell ⟨g,0,none⟩ a0).setCell ⟨g,1,none⟩ a1).heap[g]?=some (.cells #[a0,a1,x2,x3,x4,x5,x6,x7,x8] t (0,0)):=blk_put h0 1 a1 rfl
 have h2:(((w.setCell ⟨g,0,none⟩ a0).setCell ⟨g,1,none⟩ a1).setCell ⟨g,2,none⟩ a2).heap[g]?=some (.cells #[a0,a1,a2,x3,x4,x5,x6,x7,x8] t (0,0)):=blk_put h1 2 a2 rfl
 have h3:((((w.setCell ⟨g,0,none⟩ a0).setCell ⟨g,1,none⟩ a1).setCell ⟨g,2,none⟩ a2).setCell ⟨g,3,none⟩ a3).heap[g]?=some (.cells #[a0,a1,a2,a3,x4,x5,x6,x7,x8] t (0,0)):=blk_put h2 3 a3 rfl
 have h4:(((((w.setCell ⟨g,0,none⟩ a0).setCell ⟨g,1,none⟩ a1).setCell ⟨g,2,none⟩ a2).setCell ⟨g,3,none⟩ a3).setCell ⟨g,4,none⟩ a4).heap[g]?=some (.cells #[a0,a1,a2,a3,a4,x5,x6,x7,x8] t (0,0)):=blk_put h3 4 a4 rfl
 have h5:((((((w.setCell ⟨g,0,none⟩ a0).setCell ⟨g,1,none⟩ a1).setCell ⟨g,2,none⟩ a2).setCell ⟨g,3,none⟩ a3).setCell ⟨g,4,none⟩ a4).setCell ⟨g,5,none⟩ a5).heap[g]?=some (.cells #[a0,a1,a2,a3,a4,a5,x6,x7,x8] t (0,0)):=blk_put h4 5 a5 rfl
 have h6:(((((((w.setCell ⟨g,0,none⟩ a0).setCell ⟨g,1,none⟩ a1).setCell ⟨g,2,none⟩ a2).setCell ⟨g,3,none⟩ a3).setCell ⟨g,4,none⟩ a4).setCell ⟨g,5,none⟩ a5).setCell ⟨g,6,none⟩ a6).heap[g]?=some (.cells #[a0,a1,a2,a3,a4,a5,a6,x7,x8] t (0,0)):=blk_put h5 6 a6 rfl
 have h7:((((((((w.setCell ⟨g,0,none⟩ a0).setCell ⟨g,1,none⟩ a1).setCell ⟨g,2,none⟩ a2).setCell ⟨g,3,none⟩ a3).setCell ⟨g,4,none⟩ a4).setCell ⟨g,5,none⟩ a5).setCell ⟨g,6,none⟩ a6).setCell ⟨g,7,none⟩ a7).heap[g]?=some (.cells #[a0,a1,a2,a3,a4,a5,a6,a7,x8] t (0,0)):=blk_put h6 7 a7 rfl
 have h8:(((((((((w.setCell ⟨g,0,none⟩ a0).setCell ⟨g,1,none⟩ a1).setCell ⟨g,2,none⟩ a2).setCell ⟨g,3,none⟩ a3).setCell ⟨g,4,none⟩ a4).setCell ⟨g,5,none⟩ a5).setCell ⟨g,6,none⟩ a6).setCell ⟨g,7,none⟩ a7).setCell ⟨g,8,none⟩ a8).heap[g]?=some (.cells #[a0,a1,a2,a3,a4,a5,a6,a7,a8] t (0,0)):=blk_put h7 8 a8 rfl
 exact h8
theorem chg_set9 (w:World) (g:Nat) (a0 a1 a2 a3 a4 a5 a6 a7 a8:Value):Chg (fun k=>k=g) w (((((((((w.setCell ⟨g,0,none⟩ a0).setCell ⟨g,1,none⟩ a1).setCell ⟨g,2,none⟩ a2).setCell ⟨g,3,none⟩ a3).setCell ⟨g,4,none⟩ a4).setCell ⟨g,5,none⟩ a5).setCell ⟨g,6,none⟩ a6).setCell ⟨g,7,none⟩ a7).setCell ⟨g,8,none⟩ a8):=(chg_trans (chg_trans (chg_trans (chg_trans (chg_trans (chg_trans (chg_trans (chg_trans (chg_set _ _ _ _) (chg_set _ _ _ _)) (chg_set _ _ _ _)) (chg_set _ _ _ _)) (chg_set _ _ _ _)) (chg_set _ _ _ _)) (chg_set _ _ _ _)) (chg_set _ _ _ _)) (chg_set _ _ _ _))
theorem row9t {w:World} {g:Nat} {v0 v1 v2 v3 v4 v5 v6 v7 v8:Value} {t:TypeId} (h:w.heap[g]?=some (.cells #[v0,v1,v2,v3,v4,v5,v6,v7,v8] t (0,0))) :
  (w.cell? ⟨g,0,none⟩=some v0∧w.cell? ⟨g,1,none⟩=some v1∧w.cell? ⟨g,2,none⟩=some v2∧w.cell? ⟨g,3,none⟩=some v3∧w.cell? ⟨g,4,none⟩=some v4∧w.cell? ⟨g,5,none⟩=some v5∧w.cell? ⟨g,6,none⟩=some v6∧w.cell? ⟨g,7,none⟩=some v7∧w.cell? ⟨g,8,none⟩=some v8) ∧
  (w.frozen? ⟨g,0,none⟩=false∧w.frozen? ⟨g,1,none⟩=false∧w.frozen? ⟨g,2,none⟩=false∧w.frozen? ⟨g,3,none⟩=false∧w.frozen? ⟨g,4,none⟩=false∧w.frozen? ⟨g,5,none⟩=false∧w.frozen? ⟨g,6,none⟩=false∧w.frozen? ⟨g,7,none⟩=false∧w.frozen? ⟨g,8,none⟩=false):=by
 refine ⟨⟨?_,?_,?_,?_,?_,?_,?_,?_,?_⟩,blk_frozen h 0,blk_frozen h 1,blk_frozen h 2,blk_frozen h 3,blk_frozen h 4,blk_frozen h 5,blk_frozen h 6,blk_frozen h 7,blk_frozen h 8⟩ <;> (rw [cell_of_row _ _ _ _ _ _ h];rfl)
abbrev czO:Obj:=.cells #[.string ⟨#[]⟩,.int .i64 0,.int .i64 0,.string ⟨#[]⟩,.int .i64 0,.int .i64 0,.slice none 0 0,.slice none 0 0,.slice none 0 0] 63 (0,0)
def AnyCt (w:World) (g:Nat) (R:Except Int (Ct × List Int)) (e:Ending) (w':World):Prop:=
 ∃ p c,e=.returned (ctV p c)∧(TmS w' (fun b=>w.heap.size≤b) p c.ty∧c.nm.size≤140737488355328)∧Chg (fun k=>k=g) w w'∧RS w' g (restR R)∧valIs c R
theorem ctR_chain (s:Except Int (List Int)):restR (nextR s ctR)=restR (nextR (restR (nextR s nameR)) wholeR)∧∀ k t,valIs k (nextR s nameR)→valIs t (nextR (restR (nextR s nameR)) wholeR)→valIs (⟨k,t⟩:Ct) (nextR s ctR):=by
 cases s with
 | error e=>exact ⟨rfl,fun _ _ _ _=>trivial⟩
 | ok xs =>
  simp only [nextR]
  unfold ctR
  cases nameR xs with
  | error e=>exact ⟨rfl,fun _ _ _ _=>trivial⟩
  | ok y =>
   simp only [restR]
   cases wholeR y.2 with
   | error e=>exact ⟨rfl,fun _ _ _ _=>trivial⟩
   | ok z=>exact ⟨rfl,fun k t h1 h2=>by show (⟨k,t⟩:Ct)=⟨y.1,z.1⟩;rw [show k=y.1 from h1,show t=z.1 from h2]⟩
set_option maxHeartbeats 4000000 in
theorem ctor_any (g:Nat) (s:Except Int (List Int)) (w:World) (h:RS w g s) :
  Calls Try.prog 91 #[.pointer (some ⟨g,0,none⟩)] w (AnyCt w g (nextR s ctR)):=by
 have HGL:=Ak h.lt
 have HR0:=Ak (h.below (below_alloc (Below.refl _ _) czO))
 have HX0:=Ak (blk_new w czO)
 have HB0:=Ak (below_alloc (Below.refl w.heap.size w) czO)
 have HZ0:=Ak (show (w.alloc czO).heap.size=w.heap.size+1 by simp)
 clear h
 go_enter Try.func91,Try.ntmps91
 go_upto_region 1 with (fail)
 obtain ⟨W0,hW0⟩:∃ W0,W0=w.alloc czO:=⟨_,rfl⟩
 rw [← hW0] at HR0 HX0 HB0 HZ0 ⊢
 clear hW0
 go_wp2_with (first
  | (go_at_call 87;go_must (refine (name_any g s _ HR0.out).mono ?_;rintro e w3 ⟨k3,rfl,hsz,hc3,hm3,hv3⟩;have HX3:=Ak ((hc3.block _ (blk_lt HX0.out) (by have:=HGL.out;omega)).trans HX0.out);have HC3:=Ak hc3;have HM3:=Ak hm3;have HV3:=Ak hv3;have HSZ:=Ak hsz;clear hc3 hm3 hv3 hsz))
  | (go_at_call 89;go_must (refine (whole_any g _ _ HM3.out).mono ?_;rintro e w5 ⟨p5,t5,rfl,hl5,hc5,hm5,hv5⟩;have HX5:=Ak ((hc5.block _ (blk_lt HX3.out) (by have:=HGL.out;omega)).trans HX3.out);have HL5:=Ak hl5;have HC5:=Ak hc5;have HM5:=Ak hm5;have HV5:=Ak hv5;clear hl5 hc5 hm5 hv5;obtain ⟨⟨e0,e1,e2,e3,e4,e5,e6,e7,e8⟩,x0,x1,x2,x3,x4,x5,x6,x7,x8⟩:=row9t HX5.out;simp only [tmV])))
 refine bodyPost_ret (results_c rfl _ _ w.heap.size 63 #[.string k3,.int .i64 t5.kind,.int .i64 t5.num,.string t5.name,.int .i64 t5.lv.kind,.int .i64 t5.lv.num,.slice p5.A t5.lv.kids.length p5.c,.slice p5.B t5.ls.length p5.d,.slice p5.K t5.kids.length p5.e] (0,0) _ rfl (set9 HX5.out) Try.underlying63 rfl (by kernel_rfl)) rfl ?_
 have hz3:=HC3.out.size
 have hz0:=HZ0.out
 have hgl:=HGL.out
 have hz5:=HC5.out.size
 have h05:=chg_trans (Chg.of_below HB0.out) (chg_trans HC3.out HC5.out)
 have hch:=chg_set9 w5 w.heap.size (.string k3) (.int .i64 t5.kind) (.int .i64 t5.num) (.string t5.name) (.int .i64 t5.lv.kind) (.int .i64 t5.lv.num) (.slice p5.A t5.lv.kids.length p5.c) (.slice p5.B t5.ls.length p5.d) (.slice p5.K t5.kids.length p5.e)
 refine ⟨p5,⟨k3,t5⟩,rfl,⟨(HL5.out.same fun k hk _=>hch.block k (by omega) (by omega)).mono fun k hk _=>by omega,HSZ.out⟩,⟨hch.os.trans h05.os,hch.tape.trans h05.tape,hch.output.trans h05.output,Nat.le_trans h05.size hch.size,fun i hi hs=>?_⟩,?_,(ctR_chain s).2 k3 t5 HV3.out HV5.out⟩
 ·rw [hch.block i (Nat.lt_of_lt_of_le hi h05.size) (by omega),h05.block i hi hs]
 ·rw [(ctR_chain s).1];exact HM5.out.chg (S:=fun k=>k=w.heap.size) (fun k e=>by omega) hch
end Go.Proofs.Ytcgkeolgflphiaa

namespace Go.Proofs.Ytcgkeolgflphiaa
open Go.RowKit Go.Proofs.YtcgkeolgflphiaaW.PrintWords Go.RegionInvYtcgkeolgflphiaa Go.RegionEYtcgkeolgflphiaa
set_option linter.unusedVariables false

theorem ct_one (p:Pl) (l:Ct):(#[.string l.nm,.int .i64 l.ty.kind,.int .i64 l.ty.num,.string l.ty.name,.int .i64 l.ty.lv.kind,.int .i64 l.ty.lv.num,.slice p.A l.ty.lv.kids.length p.c,.slice p.B l.ty.ls.length p.d,.slice p.K l.ty.kids.length p.e]:Array Value).all (·.oneCell')=true:=all_one (l:=[.string l.nm,.int .i64 l.ty.kind,.int .i64 l.ty.num,.string l.ty.name,.int .i64 l.ty.lv.kind,.int .i64 l.ty.lv.num,.slice p.A l.ty.lv.kids.length p.c,.slice p.B l.ty.ls.length p.d,.slice p.K l.ty.kids.length p.e]) rfl

def lc_ops:List Oper:=[
 { dst:=some 14,op:=Go.Op.load 63 (Go.Operand.tmp 7),type:=63,pos:= "decl.go:262",after:=#[],guard:=none },
 { dst:=some 15,op:=Go.Op.move (Go.Operand.tmp 0),type:=31,pos:= "decl.go:262",after:=#[],guard:=none },
 { dst:=some 16,op:=Go.Op.call { callee:=Go.Callee.builtin Go.Builtin.len,args:=#[Go.Operand.tmp 15],argTypes:=#[31] },type:=3,pos:= "decl.go:262",after:=#[{ on:=1,ground:=Go.Ground.data }],guard:=none },
 { dst:=some 17,op:=Go.Op.move (Go.Operand.tmp 6),type:=97,pos:= "decl.go:262",after:=#[],guard:=none },
 { dst:=some 18,op:=Go.Op.nilCheck (Go.Operand.tmp 17),type:=0,pos:= "decl.go:262",after:=#[{ on:=3,ground:=Go.Ground.data }],guard:=none },
 { dst:=some 19,op:=Go.Op.fieldAddr 99 (Go.Operand.tmp 18) 0,type:=0,pos:= "decl.go:262",after:=#[{ on:=4,ground:=Go.Ground.data }],guard:=none },
 { dst:=some 20,op:=Go.Op.load 31 (Go.Operand.tmp 19),type:=31,pos:= "decl.go:262",after:=#[{ on:=5,ground:=Go.Ground.data }],guard:=none },
 { dst:=some 21,op:=Go.Op.call { callee:=Go.Callee.builtin Go.Builtin.len,args:=#[Go.Operand.tmp 20],argTypes:=#[31] },type:=3,pos:= "decl.go:262",after:=#[{ on:=6,ground:=Go.Ground.data }],guard:=none },
 { dst:=some 22,op:=Go.Op.binOp Go.BinOp.sub 3 (Go.Operand.tmp 16) (Go.Operand.tmp 21) 3,type:=3,pos:= "decl.go:262",after:=#[{ on:=2,ground:=Go.Ground.data },{ on:=7,ground:=Go.Ground.data },{ on:=13,ground:=Go.Ground.gcOnly Go.Departure.lateStores }],guard:=none },
 { dst:=some 23,op:=Go.Op.move (Go.Operand.tmp 6),type:=97,pos:= "decl.go:262",after:=#[{ on:=14,ground:=Go.Ground.gcOnly Go.Departure.lateStores }],guard:=none },
 { dst:=some 24,op:=Go.Op.nilCheck (Go.Operand.tmp 23),type:=0,pos:= "decl.go:262",after:=#[{ on:=9,ground:=Go.Ground.data },{ on:=14,ground:=Go.Ground.gcOnly Go.Departure.lateStores }],guard:=none },
 { dst:=some 25,op:=Go.Op.fieldAddr 99 (Go.Operand.tmp 24) 3,type:=0,pos:= "decl.go:262",after:=#[{ on:=10,ground:=Go.Ground.data },{ on:=14,ground:=Go.Ground.gcOnly Go.Departure.lateStores }],guard:=none },
 { dst:=some 26,op:=Go.Op.load 32 (Go.Operand.tmp 25),type:=32,pos:= "decl.go:262",after:=#[{ on:=11,ground:=Go.Ground.data },{ on:=14,ground:=Go.Ground.gcOnly Go.Departure.lateStores }],guard:=none },
 { dst:=none,op:=Go.Op.store 63 (Go.Operand.tmp 3) (Go.Operand.tmp 14),type:=0,pos:= "decl.go:262",after:=#[{ on:=0,ground:=Go.Ground.data },{ on:=0,ground:=Go.Ground.phase },{ on:=1,ground:=Go.Ground.textOnly Go.Departure.lateStores },{ on:=2,ground:=Go.Ground.textOnly Go.Departure.lateStoresUnsure },{ on:=3,ground:=Go.Ground.textOnly Go.Departure.lateStores },{ on:=4,ground:=Go.Ground.textOnly Go.Departure.lateStores },{ on:=5,ground:=Go.Ground.textOnly Go.Departure.lateStores },{ on:=6,ground:=Go.Ground.textOnly Go.Departure.lateStores },{ on:=7,ground:=Go.Ground.textOnly Go.Departure.lateStoresUnsure },{ on:=8,ground:=Go.Ground.textOnly Go.Departure.lateStores },{ on:=9,ground:=Go.Ground.textOnly Go.Departure.lateStores },{ on:=10,ground:=Go.Ground.textOnly Go.Departure.lateStores },{ on:=11,ground:=Go.Ground.textOnly Go.Departure.lateStores },{ on:=12,ground:=Go.Ground.textOnly Go.Departure.lateStores }],guard:=none },
 { dst:=some 4,op:=Go.Op.assign (Go.Operand.tmp 22),type:=3,pos:= "decl.go:262",after:=#[{ on:=8,ground:=Go.Ground.data },{ on:=13,ground:=Go.Ground.chain },{ on:=0,ground:=Go.Ground.phase },{ on:=1,ground:=Go.Ground.phase },{ on:=2,ground:=Go.Ground.phase },{ on:=3,ground:=Go.Ground.phase },{ on:=4,ground:=Go.Ground.phase },{ on:=5,ground:=Go.Ground.phase },{ on:=6,ground:=Go.Ground.phase },{ on:=7,ground:=Go.Ground.phase },{ on:=8,ground:=Go.Ground.phase },{ on:=9,ground:=Go.Ground.textOnly Go.Departure.lateStores },{ on:=10,ground:=Go.Ground.textOnly Go.Departure.lateStores },{ on:=11,ground:=Go.Ground.textOnly Go.Departure.lateStores },{ on:=12,ground:=Go.Ground.textOnly Go.Departure.lateStores },{ on:=13,ground:=Go.Ground.phase }],guard:=none },
 { dst:=some 5,op:=Go.Op.assign (Go.Operand.tmp 26),type:=32,pos:= "decl.go:262",after:=#[{ on:=12,ground:=Go.Ground.data },{ on:=14,ground:=Go.Ground.chain },{ on:=0,ground:=Go.Ground.phase },{ on:=1,ground:=Go.Ground.phase },{ on:=2,ground:=Go.Ground.phase },{ on:=3,ground:=Go.Ground.phase },{ on:=4,ground:=Go.Ground.phase },{ on:=5,ground:=Go.Ground.phase },{ on:=6,ground:=Go.Ground.phase },{ on:=7,ground:=Go.Ground.phase },{ on:=8,ground:=Go.Ground.phase },{ on:=9,ground:=Go.Ground.phase },{ on:=10,ground:=Go.Ground.phase },{ on:=11,ground:=Go.Ground.phase },{ on:=12,ground:=Go.Ground.phase },{ on:=13,ground:=Go.Ground.phase },{ on:=14,ground:=Go.Ground.phase }],guard:=none }]
def lc_F (w0:World) (gR gx gi n n6 c c6:Nat) (A A6:Option Addr) (N6 m6 er:Int) (p:Pl) (l:Ct):Nat→(Nat→Value)→Value→World→(Nat→Prop)→Prop:=fun rix=>match rix with
 | 0=>fun _ v _ _=>v=ctV p l
 | 1=>fun _ v _ _=>v=.slice A n c
 | 2=>fun _ v _ _=>v=.int .i64 n
 | 3=>fun _ v _ _=>v=.pointer (some ⟨gi,0,none⟩)
 | 4=>fun _ v _ _=>v=.pointer (some ⟨gi,0,none⟩)
 | 5=>fun _ v _ _=>v=.pointer (some ⟨gi,0,none⟩)
 | 6=>fun _ v _ _=>v=.slice A6 n6 c6
 | 7=>fun _ v _ _=>v=.int .i64 n6
 | 8=>fun _ v _ _=>v=.int .i64 (IntKind.i64.wrap ((n:Int) - n6))
 | 9=>fun _ v _ _=>v=.pointer (some ⟨gi,0,none⟩)
 | 10=>fun _ v _ _=>v=.pointer (some ⟨gi,0,none⟩)
 | 11=>fun _ v _ _=>v=.pointer (some ⟨gi,3,none⟩)
 | 12=>fun _ v _ _=>v=.int .i64 er
 | 13=>fun τ v w O=>w.heap[gR]?=some (ctO p l)∧O gR
 | 14=>fun _ v _ _=>v=.int .i64 (IntKind.i64.wrap ((n:Int) - n6))
 | 15=>fun _ v _ _=>v=.int .i64 er
 | _=>fun _ _ _ _=>True
def lc_C:Nat→List Nat:=fun rix=>match rix with
 | _=>[]
theorem lc_nw0:nwB lc_ops.toArray 0=true:=by kernel_rfl
theorem lc_nw3:nwB lc_ops.toArray 3=true:=by kernel_rfl
theorem lc_nw6:nwB lc_ops.toArray 6=true:=by kernel_rfl
theorem lc_nw7:nwB lc_ops.toArray 7=true:=by kernel_rfl
set_option maxRecDepth 100000 in
set_option maxHeartbeats 8000000 in
theorem lc_obs (w0:World) (gR gx gi n n6 c c6:Nat) (A A6:Option Addr) (N6 m6 er:Int) (p:Pl) (l:Ct) (hR:w0.heap[gR]?=some czO) (hX:w0.heap[gx]?=some (ctO p l)) (hI:w0.heap[gi]?=some (rdB A6 n6 c6 N6 m6 er)) (hn1:gx≠gR) (hn2:gi≠gR) (Q:Exit→Act→World→Prop) (a0:Act) (hi0:a0.tmps.getD 0 undef=.slice A n c) (hi3:a0.tmps.getD 3 undef=.pointer (some ⟨gR,0,none⟩)) (hi4:a0.tmps.getD 4 undef=.int .i64 0) (hi5:a0.tmps.getD 5 undef=.int .i64 0) (hi6:a0.tmps.getD 6 undef=.pointer (some ⟨gi,0,none⟩)) (hi7:a0.tmps.getD 7 undef=.pointer (some ⟨gx,0,none⟩)) :
  ObsE Try.prog lc_ops.toArray Q (est2 13 0 (fun k=>k=gR) (fun _=>False)) lc_C (lc_F w0 gR gx gi n n6 c c6 A A6 N6 m6 er p l) a0 w0 lc_ops.toArray.toList 0:=by
 have nw0:=lc_nw0
 have nw3:=lc_nw3
 have nw6:=lc_nw6
 have nw7:=lc_nw7
 refine ⟨?_,?_,?_,?_,?_,?_,?_,?_,?_,?_,?_,?_,?_,?_,?_,?_,trivial⟩
 ·refine ⟨⟨fun τ=>stableE_det _,leans_not⟩,?_⟩
  intro a w O hk
  have e7:a.eval (.tmp 7)=.pointer (some ⟨gx,0,none⟩):=(hk.init 7 (initialB_of_nw nw7)).trans hi7
  have xX:=(hk.fix gx (est2_fix (blk_lt hX) (fun e=>hn1 e) (fun e=>e))).trans hX
  exact obE_loadRow rfl e7 xX Try.underlying63 rfl (by kernel_rfl) (wanted_none rfl) rfl
 ·refine ⟨⟨fun τ=>stableE_det _,leans_not⟩,?_⟩
  intro a w O hk
  have e0:a.eval (.tmp 0)=.slice A n c:=(hk.init 0 (initialB_of_nw nw0)).trans hi0
  exact toE (ob_move rfl e0 (wanted_none rfl) rfl)
 ·refine ⟨⟨fun τ=>stableE_det _,leans_not⟩,?_⟩
  intro a w O hk
  have e15:a.eval (.tmp 15)=.slice A n c:=hk.fact 1 _ 15 rfl rfl rfl rfl
  exact toE (ob_len rfl e15 Try.underlying31 (wanted_none rfl) rfl)
 ·refine ⟨⟨fun τ=>stableE_det _,leans_not⟩,?_⟩
  intro a w O hk
  have e6:a.eval (.tmp 6)=.pointer (some ⟨gi,0,none⟩):=(hk.init 6 (initialB_of_nw nw6)).trans hi6
  exact toE (ob_move rfl e6 (wanted_none rfl) rfl)
 ·refine ⟨⟨fun τ=>stableE_det _,leans_not⟩,?_⟩
  intro a w O hk
  have e17:a.eval (.tmp 17)=.pointer (some ⟨gi,0,none⟩):=hk.fact 3 _ 17 rfl rfl rfl rfl
  exact obE_run (wanted_none rfl) (by unfold execOp;simp only [];rw [e17];go_simp) rfl
 ·refine ⟨⟨fun τ=>stableE_det _,leans_not⟩,?_⟩
  intro a w O hk
  have e18:a.eval (.tmp 18)=.pointer (some ⟨gi,0,none⟩):=hk.fact 4 _ 18 rfl rfl rfl rfl
  exact obE_run (wanted_none rfl) (by unfold execOp;simp only [];rw [e18];go_simp) rfl
 ·refine ⟨⟨fun τ=>stableE_det _,leans_not⟩,?_⟩
  intro a w O hk
  have e19:a.eval (.tmp 19)=.pointer (some ⟨gi,0,none⟩):=hk.fact 5 _ 19 rfl rfl rfl rfl
  have xI:=(hk.fix gi (est2_fix (blk_lt hI) (fun e=>hn2 e) (fun e=>e))).trans hI
  have c0:=(row4 xI).1
  exact toE (ob_loadSlice rfl e19 Try.underlying31 c0 (wanted_none rfl) rfl)
 ·refine ⟨⟨fun τ=>stableE_det _,leans_not⟩,?_⟩
  intro a w O hk
  have e20:a.eval (.tmp 20)=.slice A6 n6 c6:=hk.fact 6 _ 20 rfl rfl rfl rfl
  exact toE (ob_len rfl e20 Try.underlying31 (wanted_none rfl) rfl)
 ·refine ⟨⟨fun τ=>stableE_det _,leans_not⟩,?_⟩
  intro a w O hk
  have e16:a.eval (.tmp 16)=.int .i64 n:=hk.fact 2 _ 16 rfl rfl rfl rfl
  have e21:a.eval (.tmp 21)=.int .i64 n6:=hk.fact 7 _ 21 rfl rfl rfl rfl
  exact obE_run (wanted_none rfl) (by unfold execOp;simp only [];rw [e16,e21];go_simp) rfl
 ·refine ⟨⟨fun τ=>stableE_det _,leans_not⟩,?_⟩
  intro a w O hk
  have e6:a.eval (.tmp 6)=.pointer (some ⟨gi,0,none⟩):=(hk.init 6 (initialB_of_nw nw6)).trans hi6
  exact toE (ob_move rfl e6 (wanted_none rfl) rfl)
 ·refine ⟨⟨fun τ=>stableE_det _,leans_not⟩,?_⟩
  intro a w O hk
  have e23:a.eval (.tmp 23)=.pointer (some ⟨gi,0,none⟩):=hk.fact 9 _ 23 rfl rfl rfl rfl
  exact obE_run (wanted_none rfl) (by unfold execOp;simp only [];rw [e23];go_simp) rfl
 ·refine ⟨⟨fun τ=>stableE_det _,leans_not⟩,?_⟩
  intro a w O hk
  have e24:a.eval (.tmp 24)=.pointer (some ⟨gi,0,none⟩):=hk.fact 10 _ 24 rfl rfl rfl rfl
  exact obE_run (wanted_none rfl) (by unfold execOp;simp only [];rw [e24];go_simp) rfl
 ·refine ⟨⟨fun τ=>stableE_det _,leans_not⟩,?_⟩
  intro a w O hk
  have e25:a.eval (.tmp 25)=.pointer (some ⟨gi,3,none⟩):=hk.fact 11 _ 25 rfl rfl rfl rfl
  have xI:=(hk.fix gi (est2_fix (blk_lt hI) (fun e=>hn2 e) (fun e=>e))).trans hI
  have c3:=(row4 xI).2.2.2.1
  exact obE_run (wanted_none rfl) (by unfold execOp;simp only [];rw [e25];go_simp) rfl
 ·refine ⟨⟨fun τ=>(fun v w w' O h hz hk=>⟨(hk gR (blk_lt h.1) (.inr h.2)).trans h.1,h.2⟩),leans_not⟩,?_⟩
  intro a w O hk
  have e3:a.eval (.tmp 3)=.pointer (some ⟨gR,0,none⟩):=(hk.init 3 (initialB_of_nw nw3)).trans hi3
  have e14:a.eval (.tmp 14)=ctV p l:=hk.fact 0 _ 14 rfl rfl rfl rfl
  have xR:=(hk.est 13 _ rfl (.inl rfl) gR (.inl ⟨rfl,rfl⟩)).trans hR
  have hs:=run_storeVar_row (P:=Try.prog) w gR 63 63 _ #[.string l.nm,.int .i64 l.ty.kind,.int .i64 l.ty.num,.string l.ty.name,.int .i64 l.ty.lv.kind,.int .i64 l.ty.lv.num,.slice p.A l.ty.lv.kids.length p.c,.slice p.B l.ty.ls.length p.d,.slice p.K l.ty.kids.length p.e] xR (by kernel_rfl) rfl (ct_one p l)
  refine obE_store (w':=w.setRow gR #[.string l.nm,.int .i64 l.ty.kind,.int .i64 l.ty.num,.string l.ty.name,.int .i64 l.ty.lv.kind,.int .i64 l.ty.lv.num,.slice p.A l.ty.lv.kids.length p.c,.slice p.B l.ty.ls.length p.d,.slice p.K l.ty.kids.length p.e]) (fun k=>k=gR) (wanted_none rfl) (by unfold execOp;simp only [];rw [e3,e14];simp only [ctV,Instr.storeAt,Instr.sureAddr,Sem.run_bind,Sem.run_pure,Result.andThen_ok,hs]) ⟨rfl,rfl,rfl,Nat.le_of_eq (size_setRow _ _ _).symm,fun k _ hn=>setRow_other w gR k _ (fun e=>hn (.inr (.inl ⟨rfl,e⟩)))⟩ ⟨setRow_heap w gR _ _ _ _ xR,rfl⟩ (fun k h=>.inl (.inr (.inl ⟨rfl,h⟩)))
 ·refine ⟨⟨fun τ=>stableE_det _,leans_not⟩,?_⟩
  intro a w O hk
  have e22:a.eval (.tmp 22)=.int .i64 (IntKind.i64.wrap ((n:Int) - n6)):=hk.fact 8 _ 22 rfl rfl rfl rfl
  exact toE (ob_assign rfl e22 (wanted_none rfl) rfl)
 ·refine ⟨⟨fun τ=>stableE_det _,leans_not⟩,?_⟩
  intro a w O hk
  have e26:a.eval (.tmp 26)=.int .i64 er:=hk.fact 12 _ 26 rfl rfl rfl rfl
  exact toE (ob_assign rfl e26 (wanted_none rfl) rfl)
set_option maxRecDepth 100000 in
set_option maxHeartbeats 8000000 in
theorem lc_region {Q:Exit→Act→World→Prop} {id:Nat} (w0:World) (gR gx gi n n6 c c6:Nat) (A A6:Option Addr) (N6 m6 er:Int) (p:Pl) (l:Ct) {s1 s2 s8 s9 s10 s11 s12 s13 s14 s15 s16 s17 s18 s19 s20 s21 s22 s23 s24 s25 s26:Value} (hR:w0.heap[gR]?=some czO) (hX:w0.heap[gx]?=some (ctO p l)) (hI:w0.heap[gi]?=some (rdB A6 n6 c6 N6 m6 er)) (hn1:gx≠gR) (hn2:gi≠gR)
  (hend:∀ (w':World) (v13:Value) (O13:Nat→Prop),Chg (fun k=>(fun k=>k=gR) k∨(fun _=>False) k) w0 w'→(w'.heap[gR]?=some (ctO p l)∧O13 gR)→(∀ k,O13 k→k<w'.heap.size∧¬ Fix w0 (est2 13 0 (fun k=>k=gR) (fun _=>False)) k)→Q .normal { tmps:=((.slice A n c) :: s1 :: s2 :: (.pointer (some ⟨gR,0,none⟩)) :: (.int .i64 (IntKind.i64.wrap ((n:Int) - n6))) :: (.int .i64 er) :: (.pointer (some ⟨gi,0,none⟩)) :: (.pointer (some ⟨gx,0,none⟩)) :: s8 :: s9 :: s10 :: s11 :: s12 :: s13 :: (ctV p l) :: (.slice A n c) :: (.int .i64 n) :: (.pointer (some ⟨gi,0,none⟩)) :: (.pointer (some ⟨gi,0,none⟩)) :: (.pointer (some ⟨gi,0,none⟩)) :: (.slice A6 n6 c6) :: (.int .i64 n6) :: (.int .i64 (IntKind.i64.wrap ((n:Int) - n6))) :: (.pointer (some ⟨gi,0,none⟩)) :: (.pointer (some ⟨gi,0,none⟩)) :: (.pointer (some ⟨gi,3,none⟩)) :: (.int .i64 er) :: []:List Value).toArray,defers:=[] } w') :
  (Code.region id lc_ops.toArray true).wp Try.prog Q { tmps:=((.slice A n c) :: s1 :: s2 :: (.pointer (some ⟨gR,0,none⟩)) :: (.int .i64 0) :: (.int .i64 0) :: (.pointer (some ⟨gi,0,none⟩)) :: (.pointer (some ⟨gx,0,none⟩)) :: s8 :: s9 :: s10 :: s11 :: s12 :: s13 :: s14 :: s15 :: s16 :: s17 :: s18 :: s19 :: s20 :: s21 :: s22 :: s23 :: s24 :: s25 :: s26 :: []:List Value).toArray,defers:=[] } w0:=by
 refine wp_region_est (by kernel_rfl) (est2 13 0 (fun k=>k=gR) (fun _=>False)) lc_C (lc_F w0 gR gx gi n n6 c c6 A A6 N6 m6 er p l) (est2_dis (fun _ _ h=>h)) (est2_range (fun k hk=>hk ▸ blk_lt hR) (fun _ h=>h.elim)) (by rfl) (by kernel_rfl) (lc_obs w0.drew gR gx gi n n6 c c6 A A6 N6 m6 er p l hR hX hI hn1 hn2 _ _ rfl rfl rfl rfl rfl rfl) ?_
 intro a w' O hd hs hb hf hf2 ha hsame
 have hl:=slots_eq (ops:=lc_ops.toArray) [(4,.int .i64 (IntKind.i64.wrap ((n:Int) - n6))),(5,.int .i64 er),(14,ctV p l),(15,.slice A n c),(16,.int .i64 n),(17,.pointer (some ⟨gi,0,none⟩)),(18,.pointer (some ⟨gi,0,none⟩)),(19,.pointer (some ⟨gi,0,none⟩)),(20,.slice A6 n6 c6),(21,.int .i64 n6),(22,.int .i64 (IntKind.i64.wrap ((n:Int) - n6))),(23,.pointer (some ⟨gi,0,none⟩)),(24,.pointer (some ⟨gi,0,none⟩)),(25,.pointer (some ⟨gi,3,none⟩)),(26,.int .i64 er)] (show a.tmps.size=27 from hs) (fun i h=>hsame i h) ⟨(hf 14 _ 4 rfl rfl (by decide)).1,(hf 15 _ 5 rfl rfl (by decide)).1,(hf 0 _ 14 rfl rfl (by decide)).1,(hf 1 _ 15 rfl rfl (by decide)).1,(hf 2 _ 16 rfl rfl (by decide)).1,(hf 3 _ 17 rfl rfl (by decide)).1,(hf 4 _ 18 rfl rfl (by decide)).1,(hf 5 _ 19 rfl rfl (by decide)).1,(hf 6 _ 20 rfl rfl (by decide)).1,(hf 7 _ 21 rfl rfl (by decide)).1,(hf 8 _ 22 rfl rfl (by decide)).1,(hf 9 _ 23 rfl rfl (by decide)).1,(hf 10 _ 24 rfl rfl (by decide)).1,(hf 11 _ 25 rfl rfl (by decide)).1,(hf 12 _ 26 rfl rfl (by decide)).1,trivial⟩ (by kernel_rfl)
 obtain ⟨tmps,defers⟩:=a
 obtain rfl:defers=[]:=hd
 have hl':tmps=_:=hl
 rw [hl']
 obtain ⟨⟨v13,hv13⟩,ho13⟩:=hf2 13 _ rfl rfl (by decide)
 have hb':=est2_chg hb
 refine Eq.mp ?_ (hend w' v13 (O 13) ⟨hb'.os,hb'.tape,hb'.output,hb'.size,hb'.block⟩ hv13 ho13)
 kernel_rfl

end Go.Proofs.Ytcgkeolgflphiaa

namespace Go.Proofs.Ytcgkeolgflphiaa
open Go.RowKit Go.Proofs.YtcgkeolgflphiaaW.PrintWords Go.RegionInvYtcgkeolgflphiaa

theorem took_of2 {α:Type} {x:α} {b:α→List Int} {w5:World} {g n n6 c:Nat} {A:Option Addr} {er:Int} {xs:List Int} {R:Except Int (α × List Int)} (h2:∀ t r,R=.ok (t,r)→xs=b t ++ r) (hb:∀ t,1≤(b t).length) (hn:xs.length=n) (hl:n≤140737488355000) (h:BoxOf w5 g A n6 c er (restR R)) (hv:valIs x R):TookP x (IntKind.i64.wrap ((n:Int) - n6)) er xs R:=by
 cases R with
 | error k=>exact h
 | ok y =>
  obtain ⟨t,r⟩:=y
  have e2:=h2 t r rfl
  have e3:=hb t
  obtain ⟨he,hr⟩:=h
  have hr:=hr.reads.1
  have hlen:=congrArg List.length e2
  rw [List.length_append] at hlen
  refine ⟨hv,he,n - n6,?_,by omega,by omega,?_⟩
  ·rw [IntWalk.i64_in _ (by omega)];omega
  ·rw [← hr,← hn];exact suffix_drop e2
theorem ctB_pos1 (c:Ct):1≤(ctB c).length:=by
 unfold ctB
 have:∀ t,1≤(tmB t).length:=fun t=>by obtain ⟨k,n,nm,lv,ls,ks⟩:=t;rw [tmB];simp only [List.length_append,List.length_cons,List.length_nil];omega
 have:=this c.ty
 rw [List.length_append];omega
set_option maxHeartbeats 4000000 in
theorem listCt_calls (gf:Nat) (A:Option Addr) (n c:Nat) (xs:List Int) (w:World) (h:Bs w w.heap.size A n c xs) (hf:w.heap[gf]?=some (.cells #[.func (.func 91) #[] #[]] 114 (0,0))) :
  Calls Try.prog 109 #[.slice A n c,.pointer (some ⟨gf,0,none⟩)] w (TakeP eCt ctV (ctR xs) xs w):=by
 have HS:=Ak h
 have HR1:=Ak (bs_new (O1:=czO) (N:=0) (m:=0) h)
 have hb1:=below_alloc (below_alloc (Below.refl w.heap.size w) czO) (rdB A n c 0 0 0)
 have HF1:=Ak (blk_below hf hb1)
 have HX1:=Ak (blk_alloc (blk_new w czO) (rdB A n c 0 0 0))
 have HB1:=Ak hb1
 have HZ1:=Ak (show ((w.alloc czO).alloc (rdB A n c 0 0 0)).heap.size=w.heap.size+2 by simp)
 clear h hf hb1
 go_enter Try.func109,Try.ntmps109
 go_upto_region 2 with (fail)
 obtain ⟨W1,hW1⟩:∃ W1,W1=(w.alloc czO).alloc (rdB A n c 0 0 0):=⟨_,rfl⟩
 rw [← hW1] at HR1 HF1 HX1 HB1 HZ1 ⊢
 clear hW1
 have f0:W1.cell? ⟨gf,0,none⟩=some (.func (.func 91) #[] #[]):=by rw [cell_of_row _ _ _ _ _ _ HF1.out];rfl
 go_upto_region 3 with (go_at_call 91;go_must (refine (ctor_any (w.heap.size+1) (.ok xs) _ ⟨0,0,HR1.out⟩).mono ?_;rintro e w5 ⟨p5,l5,rfl,hl5,hc5,hm5,hv5⟩;have HV5:=Ak hv5;have HX5:=Ak ((hc5.block _ (blk_lt HX1.out) (by omega)).trans HX1.out);have HL5:=Ak hl5;have HC5:=Ak hc5;have HM5:=Ak (RS.box hm5);clear hl5 hc5 hm5 hv5;simp only [ctV]))
 obtain ⟨A6,n6,c6,N6,m6,er,hg6,hsem⟩:=HM5.out
 have HG6:=Ak (blk_alloc hg6 (ctO p5 l5))
 have HSEM:=Ak hsem
 have HX6:=Ak (blk_alloc HX5.out (ctO p5 l5))
 have HY6:=Ak (blk_new w5 (ctO p5 l5))
 have HC6:=Ak (chg_trans HC5.out (Chg.of_below (below_alloc (Below.refl _ _) (ctO p5 l5))))
 have HL6:=Ak (eCt.same (w':=w5.alloc (ctO p5 l5)) (p:=p5) HL5.out fun k _ hk=>(below_alloc (Below.refl _ _) (ctO p5 l5)).block k hk)
 obtain ⟨gx,hgx⟩:∃ gx,gx=w5.heap.size:=⟨_,rfl⟩
 obtain ⟨W6,hW6⟩:∃ W6,W6=w5.alloc (ctO p5 l5):=⟨_,rfl⟩
 have HGX:=Ak (show gx≠w.heap.size by have:=blk_lt HX5.out;omega)
 rw [← hgx] at HY6 ⊢
 rw [← hW6] at HG6 HX6 HY6 HC6 HL6 ⊢
 clear hg6 hsem f0 hgx hW6 HX5 HL5 HC5 HM5
 refine lc_region W6 w.heap.size gx (w.heap.size+1) n n6 c c6 A A6 N6 m6 er p5 l5 HX6.out HY6.out HG6.out (HGX.out) (by omega) ?_
 intro w7 v13 O13 hch hx7 hO
 have HX7:=Ak hx7.1
 have HC7:=Ak (hch.mono (S':=fun k=>k=w.heap.size) fun k h=>h.elim id False.elim)
 clear hch hx7 hO
 go_wp2
 refine bodyPost_ret (results_ctt rfl _ _ w.heap.size 63 #[.string l5.nm,.int .i64 l5.ty.kind,.int .i64 l5.ty.num,.string l5.ty.name,.int .i64 l5.ty.lv.kind,.int .i64 l5.ty.lv.num,.slice p5.A l5.ty.lv.kids.length p5.c,.slice p5.B l5.ty.ls.length p5.d,.slice p5.K l5.ty.kids.length p5.e] (0,0) _ rfl HX7.out Try.underlying63 rfl (by kernel_rfl)) rfl ?_
 exact ⟨p5,l5,_,_,rfl,close_mem eCt (p:=p5) HL6.out HZ1.out HC7.out,close_below HB1.out HZ1.out HC6.out HC7.out,took_of2 (b:=ctB) (fun t r hk=>ct_put HS.out.bytes hk) ctB_pos1 HS.out.reads.1 HS.out.len HSEM.out HV5.out⟩
end Go.Proofs.Ytcgkeolgflphiaa

namespace Go.Proofs.Ytcgkeolgflphiaa
open Go.RowKit Go.Proofs.YtcgkeolgflphiaaW.PrintWords Go.RegionInvYtcgkeolgflphiaa

theorem infoCtD:(Try.prog.info? 63).map (fun i=>(i.zero,i.size,i.bytes))=some (some (.agg #[.string ⟨#[]⟩,.int .i64 0,.int .i64 0,.string ⟨#[]⟩,.int .i64 0,.int .i64 0,.slice none 0 0,.slice none 0 0,.slice none 0 0]),9,136):=by kernel_rfl
theorem notNil_takeCt (gf:Nat) (W:World):(binOp .eql 133 (.func (.func 109) #[] #[.pointer (some ⟨gf,0,none⟩)]) .nilFunc).run Try.prog W=.ok (.bool false) W:=by kernel_rfl
set_option maxHeartbeats 8000000 in
theorem takeCt_calls (gf:Nat) (A:Option Addr) (n c:Nat) (xs:List Int) (most:Int) (w:World) (h:Bs w w.heap.size A n c xs) (hm0:0≤most) (hm1:most≤16) (hf:w.heap[gf]?=some (.cells #[.func (.func 91) #[] #[]] 114 (0,0))) :
  Calls Try.prog 108 #[.slice A n c,.int .i64 most,.func (.func 109) #[] #[.pointer (some ⟨gf,0,none⟩)]] w (TakeLP eCt (listR most ctR xs) xs w):=by
 have HS:=Ak h
 have hnil:=notNil_takeCt gf
 have hlen:=h.len
 have hxn:=h.reads.1
 have HF:=Ak hf
 clear hf
 go_enter Try.func108,Try.ntmps108
 rcases takeN_cases h.bytes with hT | hT | ⟨m,k,hT,hm,hk1,hk2⟩
 ·have HE:=Ak (listR_short (most:=most) (f:=ctR) hT (by decide))
  have HT:=Ak hT
  clear hT h hxn
  go_wp2_with (go_at_call 75;go_must (refine (take_calls _ _ _ xs _ HS.out.reads HS.out.bytes hlen).mono ?_;rintro e w' ⟨rfl,hw⟩;obtain rfl:w=w':=hw.symm;rw [HT.out]))
  go_ret3
  exact takeLP_err HE.out (by decide) (Below.refl _ _)
 ·have HE:=Ak (listR_short (most:=most) (f:=ctR) hT (by decide))
  have HT:=Ak hT
  clear hT h hxn
  go_wp2_with (go_at_call 75;go_must (refine (take_calls _ _ _ xs _ HS.out.reads HS.out.bytes hlen).mono ?_;rintro e w' ⟨rfl,hw⟩;obtain rfl:w=w':=hw.symm;rw [HT.out]))
  go_ret3
  exact takeLP_err HE.out (by decide) (Below.refl _ _)
 ·have HT:=Ak hT
  by_cases hlong:most<m
  ·have HE:=Ak (listR_many (f:=ctR) hT hlong)
   clear hT h hxn
   go_wp2_with (go_at_call 75;go_must (refine (take_calls _ _ _ xs _ HS.out.reads HS.out.bytes hlen).mono ?_;rintro e w' ⟨rfl,hw⟩;obtain rfl:w=w':=hw.symm;rw [HT.out]))
   go_ret3
   exact takeLP_err HE.out (by decide) (Below.refl _ _)
  ·have h1:(m:Int)≤most:=by omega
   have HE:=Ak (listR_ok (f:=ctR) hT hlong)
   have hk3:k≤n:=by omega
   have HXN:=Ak hxn
   clear hT h hlong hxn
   go_wp2_with (go_at_call 75;go_must (refine (take_calls _ _ _ xs _ HS.out.reads HS.out.bytes hlen).mono ?_;rintro e w' ⟨rfl,hw⟩;obtain rfl:w=w':=hw.symm;rw [HT.out]))
   go_loopw [9,10,12] (fun u p v wr=>∃ (r at_:Nat) (acc:List Ct),u=.int .u64 r∧p=.int .i64 at_∧r+acc.length≤16∧1≤at_∧at_≤n∧Aside0 (listR most ctR xs=moreR acc (manyR ctR r (xs.drop at_)))∧Aside0 (RowG eCt wr w.heap.size v acc)∧Aside0 (Below w.heap.size w wr)) (fun u _ _ _=>(intOf u).toNat)
   case atStart=>exact ⟨m,k,[],rfl,rfl,by simp;omega,hk1,hk3,HE,⟨RowG.nil _ _ _⟩,⟨Below.refl _ _⟩⟩
   case round =>
    clear HE HT
    obtain ⟨r,at_,acc,rfl,rfl,hr16,hat1,hat,HE,HO,HB⟩:=hrel
    rcases r with _ | r
    ·have HE2:=Ak (show listR most ctR xs=.ok (acc,xs.drop at_) from HE.out.trans moreR_end)
     go_wp2
     go_ret3
     exact ⟨u12,acc,at_,0,rfl,HO.out,HB.out,by rw [HE2.out];exact ⟨rfl,rfl,at_,rfl,hat1,by have:=HXN.out;omega,rfl⟩⟩
    ·obtain ⟨A',hcut,hrd⟩:=cut_old (A:=A) (n:=n) (c:=c) at_ hat
     have HRD:=Ak (hrd wr wr.heap.size xs ((HS.out.chg (S:=fun k=>w.heap.size≤k) (Nat.le_refl _) (fun _ h=>h) (chg_of_base HB.out)).mono HB.out.size))
     have hr1:(((r+1:Nat):Int) == 0)=false:=by simp;omega
     clear hrd
     go_upto_region 12 with (go_at_call 109;go_must (refine (listCt_calls gf A' (n - at_) (c - at_) (xs.drop at_) _ HRD.out ((HB.out.block _ (blk_lt HF.out)).trans HF.out)).mono ?_;rintro e w2 ⟨p,l5,cnt,er,rfl,hmem,hb,htk⟩;obtain ⟨p1,hp1⟩:∃ p1,p1=p:=⟨_,rfl⟩;subst hp1;have HMEM:=Ak hmem;have HB2:=Ak hb;have HTK:=Ak htk;clear hmem hb htk;simp only [ctV]))
     have HY:=Ak (blk_new w2 (.cells #[.string l5.nm,.int .i64 l5.ty.kind,.int .i64 l5.ty.num,.string l5.ty.name,.int .i64 l5.ty.lv.kind,.int .i64 l5.ty.lv.num,.slice p1.A l5.ty.lv.kids.length p1.c,.slice p1.B l5.ty.ls.length p1.d,.slice p1.K l5.ty.kids.length p1.e] 63 (0,0)))
     have HB3:=Ak (show Below w.heap.size w (w2.alloc (.cells #[.string l5.nm,.int .i64 l5.ty.kind,.int .i64 l5.ty.num,.string l5.ty.name,.int .i64 l5.ty.lv.kind,.int .i64 l5.ty.lv.num,.slice p1.A l5.ty.lv.kids.length p1.c,.slice p1.B l5.ty.ls.length p1.d,.slice p1.K l5.ty.kids.length p1.e] 63 (0,0))) from below_then HB.out HB.out.size (below_alloc HB2.out _))
     have HO3:=Ak (RowG.later HO.out (below_alloc HB2.out (.cells #[.string l5.nm,.int .i64 l5.ty.kind,.int .i64 l5.ty.num,.string l5.ty.name,.int .i64 l5.ty.lv.kind,.int .i64 l5.ty.lv.num,.slice p1.A l5.ty.lv.kids.length p1.c,.slice p1.B l5.ty.ls.length p1.d,.slice p1.K l5.ty.kids.length p1.e] 63 (0,0))))
     have HM3:=Ak (eCt.beside HO.out HB.out.size (eCt.same (w':=w2.alloc (.cells #[.string l5.nm,.int .i64 l5.ty.kind,.int .i64 l5.ty.num,.string l5.ty.name,.int .i64 l5.ty.lv.kind,.int .i64 l5.ty.lv.num,.slice p1.A l5.ty.lv.kids.length p1.c,.slice p1.B l5.ty.ls.length p1.d,.slice p1.K l5.ty.kids.length p1.e] 63 (0,0))) HMEM.out fun k hk hz=>(below_alloc (Below.refl _ _) _).block k hz))
     obtain ⟨gx,hgx⟩:∃ gx,gx=w2.heap.size:=⟨_,rfl⟩
     obtain ⟨W3,hW3⟩:∃ W3,W3=w2.alloc (.cells #[.string l5.nm,.int .i64 l5.ty.kind,.int .i64 l5.ty.num,.string l5.ty.name,.int .i64 l5.ty.lv.kind,.int .i64 l5.ty.lv.num,.slice p1.A l5.ty.lv.kids.length p1.c,.slice p1.B l5.ty.ls.length p1.d,.slice p1.K l5.ty.kids.length p1.e] 63 (0,0)):=⟨_,rfl⟩
     rw [← hgx] at HY ⊢
     rw [← hW3] at HY HB3 HO3 HM3 ⊢
     clear hgx hW3 HMEM HB2 HRD hcut
     obtain ⟨⟨d0,d1,d2,d3,d4,d5,d6,d7,d8⟩,-⟩:=row9t HY.out
     cases hf1:ctR (xs.drop at_) with
     | error ee =>
      have htk:=HTK.out
      rw [hf1] at htk
      obtain ⟨rfl,hne⟩:=htk
      have hne':(er != 0)=true:=by simp [hne]
      have HK:=Ak (HE.out.trans (moreR_bad hf1))
      have HNE:=Ak hne
      clear hf1 hne HTK
      go_wp2
      go_ret3
      exact takeLP_err HK.out HNE.out HB3.out
     | ok y =>
      obtain ⟨x',r'⟩:=y
      have htk:=HTK.out
      rw [hf1] at htk
      obtain ⟨hxx,rfl,u,rfl,hu1,hu2,hrr⟩:=htk
      subst hxx
      have HK:=Ak (HE.out.trans (moreR_next hf1))
      have hu3:at_+u≤n:=by have:=HXN.out;rw [List.length_drop] at hu2;omega
      have HRR:=Ak (show r'=xs.drop (at_+u) by rw [hrr,List.drop_drop])
      obtain ⟨cs,q,hown,hcs⟩:=HO3.out
      have HOWN:=Ak hown
      have HCS:=Ak hcs
      clear hf1 HTK hown hcs hrr hu2
      go_wp2_with (at_builtin;go_must (refine print_append_cells (w0:=W3) w.heap.size rfl (.tmp 65) (.tmp 67) 28 63 _ 9 136 rfl Try.underlying28 infoCtD rfl (by decide) (by decide) u12 acc.length cs [.string l5.nm,.int .i64 l5.ty.kind,.int .i64 l5.ty.num,.string l5.ty.name,.int .i64 l5.ty.lv.kind,.int .i64 l5.ty.lv.num,.slice p1.A l5.ty.lv.kids.length p1.c,.slice p1.B l5.ty.ls.length p1.d,.slice p1.K l5.ty.kids.length p1.e] rfl rfl rfl (List.all_eq_true.1 rfl) HOWN.out (Below.refl _ _) HB3.out.size (by omega) ?_;intro v3 w3 ho hb hg hat;have HO4:=Ak (RowG.push (E:=eCt) HOWN.out HCS.out HM3.out ho hg hat);have HB4:=Ak (HB3.out.trans hb);clear ho hb hg hat))
      go_roundw
      case rel=>exact ⟨r,at_+u,acc ++ [l5],by go_num,by go_num,by simp only [List.length_append,List.length_singleton];omega,by omega,hu3,⟨by rw [HK.out,HRR.out]⟩,HO4,HB4⟩
      case measure=>(simp [intOf];try omega)
end Go.Proofs.Ytcgkeolgflphiaa

namespace Go.Proofs.Ytcgkeolgflphiaa
open Go.RowKit Go.Proofs.YtcgkeolgflphiaaW.PrintWords Go.RegionInvYtcgkeolgflphiaa

set_option maxHeartbeats 4000000 in
theorem listOfCt_bad (g:Nat) (er most:Int) (w:World) (h:RdBad w g er) (he:er≠0) :
  Calls Try.prog 90 #[.pointer (some ⟨g,0,none⟩),.int .i64 most,.func (.func 91) #[] #[]] w fun e w'=>e=.returned (.slice none 0 0)∧Below w.heap.size w w':=by
 have hb1:=below_alloc (Below.refl w.heap.size w) (.cells #[.func (.func 91) #[] #[]] 114 (0,0))
 have HB1:=Ak hb1
 obtain ⟨A,n,c,N,m,hg⟩:=h.below hb1
 have he':(er != 0)=true:=by simp [he]
 have HG:=Ak hg
 clear he h hb1 hg
 go_enter Try.func90,Try.ntmps90
 go_upto_region 1 with (fail)
 obtain ⟨W1,hW1⟩:∃ W1,W1=w.alloc (.cells #[.func (.func 91) #[] #[]] 114 (0,0)):=⟨_,rfl⟩
 rw [← hW1] at HB1 HG ⊢
 clear hW1
 obtain ⟨c0,c1,c2,c3,z0,z1,z2,z3⟩:=row4 HG.out
 go_wp2
 go_ret
 exact ⟨rfl,HB1.out⟩
set_option maxHeartbeats 8000000 in
theorem listOfCt_calls (g:Nat) (xs:List Int) (N m most:Int) (w:World) (h:RdOk w g xs N m) (hm0:0≤most) (hm1:most≤16) :
  Calls Try.prog 90 #[.pointer (some ⟨g,0,none⟩),.int .i64 most,.func (.func 91) #[] #[]] w (ListRd eCt w g N m (listR most ctR xs)):=by
 have hb1:=below_alloc (Below.refl w.heap.size w) (.cells #[.func (.func 91) #[] #[]] 114 (0,0))
 have HB1:=Ak hb1
 have HF1:=Ak (blk_new w (.cells #[.func (.func 91) #[] #[]] 114 (0,0)))
 obtain ⟨A,n,c,hg,hs⟩:=h.below hb1
 have HG:=Ak hg
 have HS:=Ak hs
 have HGL:=Ak h.lt
 clear h hb1 hg hs
 go_enter Try.func90,Try.ntmps90
 go_upto_region 1 with (fail)
 obtain ⟨gf,hgf⟩:∃ gf,gf=w.heap.size:=⟨_,rfl⟩
 rw [← hgf]
 obtain ⟨W1,hW1⟩:∃ W1,W1=w.alloc (.cells #[.func (.func 91) #[] #[]] 114 (0,0)):=⟨_,rfl⟩
 rw [← hW1] at HB1 HF1 HG HS ⊢
 rw [← hgf] at HF1
 have HZ:=Ak (show w.heap.size≤W1.heap.size by rw [hW1];simp)
 clear hW1 hgf
 obtain ⟨c0,c1,c2,c3,z0,z1,z2,z3⟩:=row4 HG.out
 go_upto_region 4 with (go_at_call 108;go_must (refine (takeCt_calls gf A n c xs most _ (HS.out.mono (Nat.le_of_lt (blk_lt HG.out))) hm0 hm1 HF1.out).mono ?_;rintro e w2 ⟨V,l,cnt,er,rfl,hrow,hb,htk⟩;have HG2:=Ak (blk_below HG.out hb);have HS2:=Ak (HS.out.chg (S:=fun _=>False) (Nat.le_of_lt (blk_lt HG.out)) (fun _ h=>h.elim) (Chg.of_below hb));have HROW:=Ak hrow;have HTK:=Ak htk;have HB2:=Ak hb;clear hrow hb htk))
 clear c0 c1 c2 c3 z0 z1 z2 z3
 cases hR:listR most ctR xs with
 | error k =>
  have htk:=HTK.out
  rw [hR] at htk
  obtain ⟨rfl,rfl,rfl,rfl,hne⟩:=htk
  have HNE:=Ak hne
  have HRE:=Ak hR
  clear hR hne HTK
  go_wp2_with (go_at_call 106;go_must (refine (skip_no g A n c N m 0 er _ HG2.out HNE.out).mono ?_;rintro e w' ⟨rfl,hw⟩;subst hw))
  go_ret
  exact ⟨_,[],rfl,RowG.nil _ _ _,chg_trans (Chg.of_below HB1.out) (chg_trans (Chg.of_below HB2.out) (chg_set _ _ _ _)),by rw [HRE.out];exact ⟨rfl,_,_,_,_,_,rd4_3 HG2.out⟩⟩
 | ok y =>
  obtain ⟨l',r⟩:=y
  have htk:=HTK.out
  rw [hR] at htk
  obtain ⟨rfl,rfl,u,rfl,hu1,hu2,hrr⟩:=htk
  have hu3:u≤n:=by rw [HS.out.reads.1] at hu2;exact hu2
  obtain ⟨A',hcut,hcs⟩:=cut_old (A:=A) (n:=n) (c:=c) u hu3
  have HCUT:=Ak hcut
  have HCS:=Ak (hcs _ g xs HS2.out)
  have HRR:=Ak hrr
  have HRE:=Ak hR
  clear hR HTK hcut hcs hrr hu2
  go_wp2_with (go_at_call 106;go_must (refine (skip_ok g A A' n c (n - u) (c - u) N m u _ HG2.out HCUT.out).mono ?_;rintro e w' ⟨rfl,hw⟩;subst hw))
  go_ret
  have HRX:=HROW.out
  exact ⟨_,l,rfl,list_row HRX HZ.out HGL.out,chg_trans (Chg.of_below HB1.out) (chg_trans (Chg.of_below HB2.out) (chg_set _ _ _ _)),by rw [HRE.out];exact ⟨rfl,A',n - u,c - u,rd4_0 HG2.out,by rw [HRR.out];exact HCS.out.chg (Nat.le_of_lt (blk_lt HG2.out)) (fun k e=>Nat.le_of_eq e.symm) (chg_set _ _ _ _)⟩⟩
end Go.Proofs.Ytcgkeolgflphiaa

namespace Go.Proofs.Ytcgkeolgflphiaa
open Go.RowKit Go.Proofs.YtcgkeolgflphiaaW.PrintWords Go.RegionInvYtcgkeolgflphiaa

set_option maxHeartbeats 4000000 in
theorem set21v {w:World} {g:Nat} {x0 x1 x2 x3 x4 x5 x6 x7 x8 x9 x10 x11 x12 x13 x14 x15 x16 x17 x18 x19 x20 a11 a12 a13 a14 a15 a16 a17 a18:Value} {t:TypeId} (h:w.heap[g]?=some (.cells #[x0,x1,x2,x3,x4,x5,x6,x7,x8,x9,x10,x11,x12,x13,x14,x15,x16,x17,x18,x19,x20] t (0,0))) :
  ((((((((w.setCell ⟨g,11,none⟩ a11).setCell ⟨g,12,none⟩ a12).setCell ⟨g,13,none⟩ a13).setCell ⟨g,14,none⟩ a14).setCell ⟨g,15,none⟩ a15).setCell ⟨g,16,none⟩ a16).setCell ⟨g,17,none⟩ a17).setCell ⟨g,18,none⟩ a18).heap[g]?=some (.cells #[x0,x1,x2,x3,x4,x5,x6,x7,x8,x9,x10,a11,a12,a13,a14,a15,a16,a17,a18,x19,x20] t (0,0)):=by
 have h11:(w.setCell ⟨g,11,none⟩ a11).heap[g]?=some (.cells #[x0,x1,x2,x3,x4,x5,x6,x7,x8,x9,x10,a11,x12,x13,x14,x15,x16,x17,x18,x19,x20] t (0,0)):=blk_put h 11 a11 rfl
 have h12:((w.setCell ⟨g,11,none⟩ a11).setCell ⟨g,12,none⟩ a12).heap[g]?=some (.cells #[x0,x1,x2,x3,x4,x5,x6,x7,x8,x9,x10,a11,a12,x13,x14,x15,x16,x17,x18,x19,x20] t (0,0)):=blk_put h11 12 a12 rfl
 have h13:(((w.setCell ⟨g,11,none⟩ a11).setCell ⟨g,12,none⟩ a12).setCell ⟨g,13,none⟩ a13).heap[g]?=some (.cells #[x0,x1,x2,x3,x4,x5,x6,x7,x8,x9,x10,a11,a12,a13,x14,x15,x16,x17,x18,x19,x20] t (0,0)):=blk_put h12 13 a13 rfl
 have h14:((((w.setCell ⟨g,11,none⟩ a11).setCell ⟨g,12,none⟩ a12).setCell ⟨g,13,none⟩ a13).setCell ⟨g,14,none⟩ a14).heap[g]?=some (.cells #[x0,x1,x2,x3,x4,x5,x6,x7,x8,x9,x10,a11,a12,a13,a14,x15,x16,x17,x18,x19,x20] t (0,0)):=blk_put h13 14 a14 rfl
 have h15:(((((w.setCell ⟨g,11,none⟩ a11).setCell ⟨g,12,none⟩ a12).setCell ⟨g,13,none⟩ a13).setCell ⟨g,14,none⟩ a14).setCell ⟨g,15,none⟩ a15).heap[g]?=some (.cells #[x0,x1,x2,x3,x4,x5,x6,x7,x8,x9,x10,a11,a12,a13,a14,a15,x16,x17,x18,x19,x20] t (0,0)):=blk_put h14 15 a15 rfl
 have h16:((((((w.setCell ⟨g,11,none⟩ a11).setCell ⟨g,12,none⟩ a12).setCell ⟨g,13,none⟩ a13).setCell ⟨g,14,none⟩ a14).setCell ⟨g,15,none⟩ a15).setCell ⟨g,16,none⟩ a16).heap[g]?=some (.cells #[x0,x1,x2,x3,x4,x5,x6,x7,x8,x9,x10,a11,a12,a13,a14,a15,a16,x17,x18,x19,x20] t (0,0)):=blk_put h15 16 a16 rfl
 have h17:(((((((w.setCell ⟨g,11,none⟩ a11).setCell ⟨g,12,none⟩ a12).setCell ⟨g,13,none⟩ a13).setCell ⟨g,14,none⟩ a14).setCell ⟨g,15,none⟩ a15).setCell ⟨g,16,none⟩ a16).setCell ⟨g,17,none⟩ a17).heap[g]?=some (.cells #[x0,x1,x2,x3,x4,x5,x6,x7,x8,x9,x10,a11,a12,a13,a14,a15,a16,a17,x18,x19,x20] t (0,0)):=blk_put h16 17 a17 rfl
 have h18:((((((((w.setCell ⟨g,11,none⟩ a11).setCell ⟨g,12,none⟩ a12).setCell ⟨g,13,none⟩ a13).setCell ⟨g,14,none⟩ a14).setCell ⟨g,15,none⟩ a15).setCell ⟨g,16,none⟩ a16).setCell ⟨g,17,none⟩ a17).setCell ⟨g,18,none⟩ a18).heap[g]?=some (.cells #[x0,x1,x2,x3,x4,x5,x6,x7,x8,x9,x10,a11,a12,a13,a14,a15,a16,a17,a18,x19,x20] t (0,0)):=blk_put h17 18 a18 rfl
 exact h18
theorem chg_set21v (w:World) (g:Nat) (a11 a12 a13 a14 a15 a16 a17 a18:Value):Chg (fun k=>k=g) w ((((((((w.setCell ⟨g,11,none⟩ a11).setCell ⟨g,12,none⟩ a12).setCell ⟨g,13,none⟩ a13).setCell ⟨g,14,none⟩ a14).setCell ⟨g,15,none⟩ a15).setCell ⟨g,16,none⟩ a16).setCell ⟨g,17,none⟩ a17).setCell ⟨g,18,none⟩ a18):=chg_trans (chg_trans (chg_trans (chg_trans (chg_trans (chg_trans (chg_trans (chg_set _ _ _ _) (chg_set _ _ _ _)) (chg_set _ _ _ _)) (chg_set _ _ _ _)) (chg_set _ _ _ _)) (chg_set _ _ _ _)) (chg_set _ _ _ _)) (chg_set _ _ _ _)
theorem row21v {w:World} {g:Nat} {x0 x1 x2 x3 x4 x5 x6 x7 x8 x9 x10 x11 x12 x13 x14 x15 x16 x17 x18 x19 x20:Value} {t:TypeId} (h:w.heap[g]?=some (.cells #[x0,x1,x2,x3,x4,x5,x6,x7,x8,x9,x10,x11,x12,x13,x14,x15,x16,x17,x18,x19,x20] t (0,0))) :
  (w.cell? ⟨g,11,none⟩=some x11∧w.cell? ⟨g,12,none⟩=some x12∧w.cell? ⟨g,13,none⟩=some x13∧w.cell? ⟨g,14,none⟩=some x14∧w.cell? ⟨g,15,none⟩=some x15∧w.cell? ⟨g,16,none⟩=some x16∧w.cell? ⟨g,17,none⟩=some x17∧w.cell? ⟨g,18,none⟩=some x18∧w.cell? ⟨g,19,none⟩=some x19∧w.cell? ⟨g,20,none⟩=some x20)∧w.frozen? ⟨g,11,none⟩=false∧w.frozen? ⟨g,12,none⟩=false∧w.frozen? ⟨g,13,none⟩=false∧w.frozen? ⟨g,14,none⟩=false∧w.frozen? ⟨g,15,none⟩=false∧w.frozen? ⟨g,16,none⟩=false∧w.frozen? ⟨g,17,none⟩=false∧w.frozen? ⟨g,18,none⟩=false∧w.frozen? ⟨g,19,none⟩=false∧w.frozen? ⟨g,20,none⟩=false:=by
 refine ⟨⟨?_,?_,?_,?_,?_,?_,?_,?_,?_,?_⟩,blk_frozen h 11,blk_frozen h 12,blk_frozen h 13,blk_frozen h 14,blk_frozen h 15,blk_frozen h 16,blk_frozen h 17,blk_frozen h 18,blk_frozen h 19,blk_frozen h 20⟩ <;> (rw [cell_of_row _ _ _ _ _ _ h];rfl)
abbrev dzO:Obj:=.cells zdcA 30 (0,0)
structure DcBx (w W:World) (g gO:Nat) (P:DPl) (d:Dc):Prop where
 out:W.heap[gO]?=some (dcO P d)
 res:W.heap[w.heap.size]?=some dzO
 chg:Chg (fun k=>k=g) w W
 far:w.heap.size<gO
 glt:g<w.heap.size
 mem:DcS W (fun b=>w.heap.size<b∧b≠gO) P d
theorem DcBx.reader {w W W':World} {g gO:Nat} {P:DPl} {d:Dc} (h:DcBx w W g gO P d) (hc:Chg (fun k=>k=g) W W'):DcBx w W' g gO P d:=by
 have h1:=h.far
 have h2:=h.glt
 exact ⟨(hc.block _ (blk_lt h.out) (by omega)).trans h.out,(hc.block _ (blk_lt h.res) (by omega)).trans h.res,chg_trans h.chg hc,h.far,h.glt,h.mem.same fun k hk hz=>hc.block k hz (by have:=hk.1;omega)⟩
theorem DcBx.upd {w W W':World} {g gO:Nat} {P P':DPl} {d d':Dc} (h:DcBx w W g gO P d) (hc:Chg (fun k=>k=gO) W W') (ho:W'.heap[gO]?=some (dcO P' d')) (hm:DcS W (fun b=>w.heap.size<b∧b≠gO) P' d'):DcBx w W' g gO P' d':=by
 have h1:=h.far
 have h2:=h.glt
 refine ⟨ho,(hc.block _ (blk_lt h.res) (by omega)).trans h.res,⟨hc.os.trans h.chg.os,hc.tape.trans h.chg.tape,hc.output.trans h.chg.output,Nat.le_trans h.chg.size hc.size,fun i hi hs=>?_⟩,h1,h2,hm.same fun k hk hz=>hc.block k hz hk.2⟩
 rw [hc.block i (Nat.lt_of_lt_of_le hi h.chg.size) (by omega),h.chg.block i hi hs]
def AnyDc (w:World) (g:Nat) (R:Except Int (Dc × List Int)) (e:Ending) (w':World):Prop:=
 ∃ P d,e=.returned (dcV P d)∧DcS w' (fun b=>w.heap.size≤b) P d∧Chg (fun k=>k=g) w w'∧RS w' g (restR R)∧valIs d R
theorem dcBx_new {w w5:World} {g B:Nat} {P:DPl} {d:Dc} (hg:g<w.heap.size) (hc:Chg (fun k=>k=g) w w5) (hr:w5.heap[w.heap.size]?=some dzO) (hm:DcS w5 (fun b=>B≤b) P d) (hB:w.heap.size<B):DcBx w ((w5.alloc dzO).setRow w5.heap.size (dcA P d)) g w5.heap.size P d:=by
 have hs:=dc_boxed w5 P d
 have hlt:=blk_lt hr
 refine ⟨hs.1,(hs.2.block _ hlt).trans hr,chg_trans hc (Chg.of_below hs.2),hlt,hg,(hm.mono (S':=fun b=>(w.heap.size<b∧b≠w5.heap.size)∧b<w5.heap.size) fun k hk hz=>⟨⟨by omega,by omega⟩,hz⟩).same (fun k hk hz=>hs.2.block k hz) |>.mono fun k hk _=>hk.1⟩
theorem chg_setRow (w:World) (g:Nat) (cs:Array Value):Chg (fun k=>k=g) w (w.setRow g cs):=⟨rfl,rfl,rfl,Nat.le_of_eq (size_setRow _ _ _).symm,fun k _ hn=>setRow_other w g k _ hn⟩
theorem dc_fin {w wc:World} {g gO:Nat} {P:DPl} {d:Dc} {R:Except Int (Dc × List Int)} (hb:DcBx w wc g gO P d) (hm:RS wc g (restR R)) (hv:valIs d R):AnyDc w g R (.returned (dcV P d)) (wc.setRow w.heap.size (dcA P d)):=by
 have hch:=chg_setRow wc w.heap.size (dcA P d)
 have hglt:=hb.glt
 refine ⟨P,d,rfl,(hb.mem.same fun k hk _=>hch.block k (by assumption) (by have:=hk.1;omega)).mono fun k hk _=>Nat.le_of_lt hk.1,⟨hch.os.trans hb.chg.os,hch.tape.trans hb.chg.tape,hch.output.trans hb.chg.output,Nat.le_trans hb.chg.size hch.size,fun i hi hs=>?_⟩,hm.chg (S:=fun k=>k=w.heap.size) (fun k e=>by omega) hch,hv⟩
 rw [hch.block i (Nat.lt_of_lt_of_le hi hb.chg.size) (by omega),hb.chg.block i hi hs]
def R1 (s:Except Int (List Int)):=nextR s (kindR 3)
def R2 (s:Except Int (List Int)):=nextR (restR (R1 s)) nameR
def R3 (s:Except Int (List Int)):=nextR (restR (R2 s)) numR
def R4 (s:Except Int (List Int)):=nextR (restR (R3 s)) wholeR
def aftR (k:Int) (nm:ByteArray) (v:Int) (t:Tm) (R:Except Int (Tm × List Int)):Except Int (Dc × List Int):=match R with
 | .error e=>.error e
 | .ok (_,r)=>dcRr k nm v t r
theorem dc_chain {s:Except Int (List Int)} {k v:Int} {nm:ByteArray} {t:Tm} (h1:valIs k (R1 s)) (h2:valIs nm (R2 s)) (h3:valIs v (R3 s)) (h4:valIs t (R4 s)):nextR s dcR=aftR k nm v t (R4 s):=by
 cases s with
 | error e=>rfl
 | ok xs =>
  have e1:R1 (.ok xs)=kindR 3 xs:=rfl
  show dcR xs=_
  unfold dcR
  cases hk:kindR 3 xs with
  | error e =>
   have:R4 (.ok xs)=.error e:=by unfold R4 R3 R2 R1;simp only [nextR];rw [hk];rfl
   rw [this];rfl
  | ok y =>
   obtain ⟨k',r1⟩:=y
   rw [e1,hk] at h1
   obtain rfl:k=k':=h1
   have e2:R2 (.ok xs)=nameR r1:=by unfold R2 R1;simp only [nextR];rw [hk];rfl
   simp only []
   cases hn:nameR r1 with
   | error e =>
    have:R4 (.ok xs)=.error e:=by unfold R4 R3;rw [e2,hn];rfl
    rw [this];rfl
   | ok y =>
    obtain ⟨nm',r2⟩:=y
    rw [e2,hn] at h2
    obtain rfl:nm=nm':=h2
    have e3:R3 (.ok xs)=numR r2:=by unfold R3;rw [e2,hn];rfl
    simp only []
    cases hv:numR r2 with
    | error e =>
     have:R4 (.ok xs)=.error e:=by unfold R4;rw [e3,hv];rfl
     rw [this];rfl
    | ok y =>
     obtain ⟨v',r3⟩:=y
     rw [e3,hv] at h3
     obtain rfl:v=v':=h3
     have e4:R4 (.ok xs)=wholeR r3:=by unfold R4;rw [e3,hv];rfl
     simp only []
     rw [e4] at h4 ⊢
     cases ht:wholeR r3 with
     | error e=>rfl
     | ok y =>
      rw [ht] at h4
      obtain rfl:t=y.1:=h4
      rfl
theorem aft_def {nm:ByteArray} {v:Int} {t x:Tm} {R:Except Int (Tm × List Int)} (h:valIs x (nextR (restR R) wholeR)):restR (aftR 2 nm v t R)=restR (nextR (restR R) wholeR)∧valIs (⟨2,nm,v,t,x,0,[]⟩:Dc) (aftR 2 nm v t R):=by
 cases R with
 | error e=>exact ⟨rfl,trivial⟩
 | ok y =>
  have e1:aftR 2 nm v t (.ok y)=dcRr 2 nm v t y.2:=rfl
  have e2:nextR (restR (.ok y:Except Int (Tm × List Int))) wholeR=wholeR y.2:=rfl
  rw [e2] at h
  rw [e1,e2]
  unfold dcRr
  rw [if_pos rfl]
  cases hw:wholeR y.2 with
  | error e=>exact ⟨rfl,trivial⟩
  | ok z=>rw [hw] at h;exact ⟨rfl,by rw [show x=z.1 from h];rfl⟩
theorem aft_ind {nm:ByteArray} {v p:Int} {t:Tm} {l:List Ct} {R:Except Int (Tm × List Int)} (h:valIs p (nextR (restR R) numR)) (h2:valIs l (nextR (restR (nextR (restR R) numR)) (listR 8 ctR))):restR (aftR 3 nm v t R)=restR (nextR (restR (nextR (restR R) numR)) (listR 8 ctR))∧valIs (⟨3,nm,v,t,noT,p,l⟩:Dc) (aftR 3 nm v t R):=by
 cases R with
 | error e=>exact ⟨rfl,trivial⟩
 | ok y =>
  have e1:aftR 3 nm v t (.ok y)=dcRr 3 nm v t y.2:=rfl
  have e2:nextR (restR (.ok y:Except Int (Tm × List Int))) numR=numR y.2:=rfl
  rw [e2] at h h2
  rw [e1,e2]
  unfold dcRr
  rw [if_neg (by decide),if_pos rfl]
  cases hw:numR y.2 with
  | error e=>exact ⟨rfl,trivial⟩
  | ok z =>
   rw [hw] at h h2
   have e3:nextR (restR (.ok z:Except Int (Int × List Int))) (listR 8 ctR)=listR 8 ctR z.2:=rfl
   rw [e3] at h2 ⊢
   simp only []
   cases hl:listR 8 ctR z.2 with
   | error e=>exact ⟨rfl,trivial⟩
   | ok u=>rw [hl] at h2;exact ⟨rfl,by rw [show p=z.1 from h,show l=u.1 from h2];rfl⟩
theorem aft_ax {k v:Int} {nm:ByteArray} {t:Tm} {R:Except Int (Tm × List Int)} (h2:k≠2) (h3:k≠3):restR (aftR k nm v t R)=restR R∧valIs (⟨k,nm,v,t,noT,0,[]⟩:Dc) (aftR k nm v t R):=by
 cases R with
 | error e=>exact ⟨rfl,trivial⟩
 | ok y =>
  have e1:aftR k nm v t (.ok y)=dcRr k nm v t y.2:=rfl
  rw [e1]
  unfold dcRr
  rw [if_neg h2,if_neg h3]
  exact ⟨rfl,rfl⟩
def pl00:DPl:=⟨⟨none,0,none,0,none,0⟩,⟨none,0,none,0,none,0⟩,none,0,fun _=>default⟩
theorem noT_in (w:World) (S:Nat→Prop):TmS w S ⟨none,0,none,0,none,0⟩ noT:=.mk (fun _=>default) (LvS.leaf0 _ _ _ _) (LvS.leaf0 _ _ _ _) (Nat.le_refl _) (Nat.zero_le _) (fit_n (n:=0) (by decide)) (fun i x h=>by simp at h) (fun i x h=>by simp at h)
theorem rowCt_dc {w:World} {lo:Nat} {V:Value} {xs:List Ct} (h:RowG eCt w lo V xs):∃ (C:Option Addr) (e:Nat) (q:Nat→Pl),V=.slice C xs.length e∧(xs.length≤e∧e≤9223372036854775807)∧∀ (i:Nat) (c:Ct),xs[i]?=some c→CtAt w (fun b=>lo≤b) C i (q i) c∧TmS w (fun b=>lo≤b) (q i) c.ty∧c.nm.size≤140737488355328:=by
 obtain ⟨cs,q,ho,hk⟩:=h
 obtain ⟨C,e,rfl⟩:=own_slice ho
 refine ⟨C,e,q,rfl,⟨own_cap ho,own_max ho⟩,fun i c hc=>?_⟩
 have hi:i<xs.length:=by
  rcases Nat.lt_or_ge i xs.length with h | h
  ·exact h
  ·rw [List.getElem?_eq_none h] at hc;cases hc
 obtain ⟨g,cap,hv,hb,_⟩:=ho.form (by omega)
 have hv':=hv
 injection hv with hA
 have hm:=(hk i c hc).2
 refine ⟨⟨g,0,hA,hb,fun j v hjv=>?_⟩,TmS.mono hm.1 fun b hb _=>hb.1,hm.2⟩
 have:=ho.cells (g:=g) (by rw [hv'];rfl) _ _ ((hk i c hc).1 j v hjv)
 rwa [show (⟨g,0,none⟩:Addr).add (i * eCt.sz+j)=⟨g,0+(i * 9+j),none⟩ from add_flat g 0 _,← Nat.add_assoc] at this
def AnyCs (w:World) (g:Nat) (R:Except Int (List Ct × List Int)) (e:Ending) (w':World):Prop:=
 ∃ V l,e=.returned V∧RowG eCt w' w.heap.size V l∧Chg (fun k=>k=g) w w'∧RS w' g (restR R)∧valIs l R
theorem list_any (g:Nat) (s:Except Int (List Int)) (w:World) (h:RS w g s) :
  Calls Try.prog 90 #[.pointer (some ⟨g,0,none⟩),.int .i64 8,.func (.func 91) #[] #[]] w (AnyCs w g (nextR s (listR 8 ctR))):=by
 cases s with
 | error er =>
  refine (listOfCt_bad g er 8 w h.2 h.1).mono ?_
  rintro e w' ⟨rfl,hb⟩
  exact ⟨_,[],rfl,RowG.nil _ _ _,Chg.of_below hb,RS.below (s:=.error er) h hb,trivial⟩
 | ok xs =>
  obtain ⟨N,m,h⟩:=h
  refine (listOfCt_calls g xs N m 8 w h (by decide) (by decide)).mono ?_
  rintro e w' ⟨V,l,rfl,hr,hc,hst⟩
  refine ⟨V,l,rfl,hr,hc,?_⟩
  show RS w' g (restR (listR 8 ctR xs))∧valIs l (listR 8 ctR xs)
  cases hR:listR 8 ctR xs with
  | error er=>rw [hR] at hst;exact ⟨⟨list_err (fun h=>ct_err h) hR,hst.2⟩,trivial⟩
  | ok y=>rw [hR] at hst;exact ⟨⟨N,m,hst.2⟩,hst.1⟩
end Go.Proofs.Ytcgkeolgflphiaa

namespace Go.Proofs.Ytcgkeolgflphiaa
open Go.RowKit Go.Proofs.YtcgkeolgflphiaaW.PrintWords Go.RegionInvYtcgkeolgflphiaa

set_option maxRecDepth 100000 in
set_option maxHeartbeats 8000000 in
theorem decl_any (g:Nat) (s:Except Int (List Int)) (w:World) (h:RS w g s) :
  Calls Try.prog 68 #[.pointer (some ⟨g,0,none⟩)] w (AnyDc w g (nextR s dcR)):=by
 have HGL:=Ak h.lt
 have HM0:=Ak (h.below (below_alloc (Below.refl _ _) dzO))
 have HX0:=Ak (blk_new w dzO)
 have HC0:=Ak (show Chg (fun k=>k=g) w (w.alloc dzO) from Chg.of_below (below_alloc (Below.refl w.heap.size w) dzO))
 clear h
 go_enter Try.func68,Try.ntmps68
 go_upto_region 1 with (fail)
 obtain ⟨W0,hW0⟩:∃ W0,W0=w.alloc dzO:=⟨_,rfl⟩
 rw [← hW0] at HM0 HX0 HC0 ⊢
 clear hW0
 go_upto_region 2 with (first
  | (go_at_call 86;go_must (refine (kind_any g s 3 _ HM0.out (by decide) (by decide)).mono ?_;rintro e w1 ⟨k,rfl,hc1,hm1,hv1⟩;have HX1:=Ak ((hc1.block _ (blk_lt HX0.out) (by have:=HGL.out;omega)).trans HX0.out);have HC1:=Ak (chg_trans HC0.out hc1);have HM1:=Ak hm1;have HV1:=Ak hv1;clear hc1 hm1 hv1))
  | (go_at_call 87;go_must (refine (name_any g _ _ HM1.out).mono ?_;rintro e w2 ⟨nm,rfl,hsz,hc2,hm2,hv2⟩;have HSZ:=Ak hsz;clear hsz;have HX2:=Ak ((hc2.block _ (blk_lt HX1.out) (by have:=HGL.out;omega)).trans HX1.out);have HC2:=Ak (chg_trans HC1.out hc2);have HM2:=Ak hm2;have HV2:=Ak hv2;clear hc2 hm2 hv2))
  | (go_at_call 88;go_must (refine (num_any g _ _ HM2.out).mono ?_;rintro e w3 ⟨vv,rfl,hc3,hm3,hv3⟩;have HX3:=Ak ((hc3.block _ (blk_lt HX2.out) (by have:=HGL.out;omega)).trans HX2.out);have HC3:=Ak (chg_trans HC2.out hc3);have HM3:=Ak hm3;have HV3:=Ak hv3;clear hc3 hm3 hv3))
  | (go_at_call 89;go_must (refine (whole_any g _ _ HM3.out).mono ?_;rintro e w5 ⟨p5,t5,rfl,hl5,hc5,hm5,hv5⟩;have HL5:=Ak hl5;clear hl5;have HX5:=Ak ((hc5.block _ (blk_lt HX3.out) (by have:=HGL.out;omega)).trans HX3.out);have HC5:=Ak (chg_trans HC3.out hc5);have HM5:=Ak hm5;have HV5:=Ak hv5;clear hc5 hm5 hv5;simp only [tmV]))
  | (refine wpList_store_row rfl 30 _ _ rfl w5.heap.size #[.int .i64 k,.string nm,.int .i64 vv,.int .i64 t5.kind,.int .i64 t5.num,.string t5.name,.int .i64 t5.lv.kind,.int .i64 t5.lv.num,.slice p5.A t5.lv.kids.length p5.c,.slice p5.B t5.ls.length p5.d,.slice p5.K t5.kids.length p5.e,.int .i64 0,.int .i64 0,.string ⟨#[]⟩,.int .i64 0,.int .i64 0,.slice none 0 0,.slice none 0 0,.slice none 0 0,.int .i64 0,.slice none 0 0] rfl rfl 30 #[.int .i64 0,.string ⟨#[]⟩,.int .i64 0,.int .i64 0,.int .i64 0,.string ⟨#[]⟩,.int .i64 0,.int .i64 0,.slice none 0 0,.slice none 0 0,.slice none 0 0,.int .i64 0,.int .i64 0,.string ⟨#[]⟩,.int .i64 0,.int .i64 0,.slice none 0 0,.slice none 0 0,.slice none 0 0,.int .i64 0,.slice none 0 0] (blk_new _ _) (by kernel_rfl) rfl (all_one (l:=[.int .i64 k,.string nm,.int .i64 vv,.int .i64 t5.kind,.int .i64 t5.num,.string t5.name,.int .i64 t5.lv.kind,.int .i64 t5.lv.num,.slice p5.A t5.lv.kids.length p5.c,.slice p5.B t5.ls.length p5.d,.slice p5.K t5.kids.length p5.e,.int .i64 0,.int .i64 0,.string ⟨#[]⟩,.int .i64 0,.int .i64 0,.slice none 0 0,.slice none 0 0,.slice none 0 0,.int .i64 0,.slice none 0 0]) rfl) ?_))
 obtain ⟨d1,hd1⟩:∃ d1:Dc,d1=⟨k,nm,vv,t5,noT,0,[]⟩:=⟨_,rfl⟩
 obtain ⟨P1,hP1⟩:∃ P1:DPl,P1=⟨p5,⟨none,0,none,0,none,0⟩,none,0,fun _=>default⟩:=⟨_,rfl⟩
 have HB6:=Ak (dcBx_new (P:=⟨p5,⟨none,0,none,0,none,0⟩,none,0,fun _=>default⟩) (d:=⟨k,nm,vv,t5,noT,0,[]⟩) HGL.out HC5.out HX5.out ⟨HL5.out,noT_in _ _,⟨Nat.le_refl _,Nat.zero_le _⟩,HSZ.out,fun i c h=>by simp at h⟩ (blk_lt HX3.out))
 have HM6:=Ak (HM5.out.below (dc_boxed w5 ⟨p5,⟨none,0,none,0,none,0⟩,none,0,fun _=>default⟩ ⟨k,nm,vv,t5,noT,0,[]⟩).2)
 obtain ⟨gO,hgO⟩:∃ gO,gO=w5.heap.size:=⟨_,rfl⟩
 obtain ⟨W6,hW6⟩:∃ W6,W6=(w5.alloc (.cells #[.int .i64 0,.string ⟨#[]⟩,.int .i64 0,.int .i64 0,.int .i64 0,.string ⟨#[]⟩,.int .i64 0,.int .i64 0,.slice none 0 0,.slice none 0 0,.slice none 0 0,.int .i64 0,.int .i64 0,.string ⟨#[]⟩,.int .i64 0,.int .i64 0,.slice none 0 0,.slice none 0 0,.slice none 0 0,.int .i64 0,.slice none 0 0] 30 (0,0))).setRow w5.heap.size #[.int .i64 k,.string nm,.int .i64 vv,.int .i64 t5.kind,.int .i64 t5.num,.string t5.name,.int .i64 t5.lv.kind,.int .i64 t5.lv.num,.slice p5.A t5.lv.kids.length p5.c,.slice p5.B t5.ls.length p5.d,.slice p5.K t5.kids.length p5.e,.int .i64 0,.int .i64 0,.string ⟨#[]⟩,.int .i64 0,.int .i64 0,.slice none 0 0,.slice none 0 0,.slice none 0 0,.int .i64 0,.slice none 0 0]:=⟨_,rfl⟩
 rw [← hgO] at hW6 HB6 HM6 ⊢
 rw [← hW6]
 replace HB6:Aside0 (DcBx w W6 g gO ⟨p5,⟨none,0,none,0,none,0⟩,none,0,fun _=>default⟩ ⟨k,nm,vv,t5,noT,0,[]⟩):=by rw [hW6];exact HB6
 replace HM6:Aside0 (RS W6 g (restR (R4 s))):=by rw [hW6];exact HM6
 have HSO:=Ak (blk_lt HB6.out.out)
 clear hgO hW6
 have HCH:=Ak (dc_chain (s:=s) (k:=k) (v:=vv) (nm:=nm) (t:=t5) HV1.out HV2.out HV3.out HV5.out)
 have d0:W6.cell? ⟨gO,0,none⟩=some (.int .i64 k):=by rw [cell_of_row _ _ _ _ _ _ HB6.out.out];rfl
 go_upto_block 0 with (fail)
 go_cut [] (fun w8=>∃ P d,Aside0 (DcBx w w8 g gO P d)∧Aside0 (RS w8 g (restR (nextR s dcR)))∧Aside0 (valIs d (nextR s dcR)))
 case first =>
  by_cases k2:k=2
  ·subst k2
   go_wp2_with (go_at_call 89;go_must (refine (whole_any g _ _ HM6.out).mono ?_;rintro e w7 ⟨p7,t7,rfl,hl7,hc7,hm7,hv7⟩;have HB7:=Ak (HB6.out.reader hc7);have HL7:=Ak hl7;have HM7:=Ak hm7;have HV7:=Ak hv7;clear hl7 hc7 hm7 hv7;simp only [tmV];obtain ⟨⟨b11,b12,b13,b14,b15,b16,b17,b18,-⟩,z11,z12,z13,z14,z15,z16,z17,z18,-⟩:=row21v HB7.out.out))
   go_meet
   case rel =>
    have hf:=HB7.out.far
    have hg:=HB7.out.glt
    have ho:=HSO.out
    have ha:=aft_def (nm:=nm) (v:=vv) (t:=t5) (R:=R4 s) HV7.out
    refine ⟨⟨p5,p7,none,0,fun _=>default⟩,⟨2,nm,vv,t5,t7,0,[]⟩,⟨HB7.out.upd (chg_set21v _ _ _ _ _ _ _ _ _ _) (set21v HB7.out.out) ⟨HB7.out.mem.ty,HL7.out.mono fun k hk _=>⟨by omega,by omega⟩,⟨Nat.le_refl _,Nat.zero_le _⟩,HSZ.out,fun i c h=>by simp at h⟩⟩,⟨?_⟩,⟨?_⟩⟩
    ·rw [HCH.out,ha.1];exact HM7.out.chg (S:=fun k=>k=gO) (fun k e=>by omega) (chg_set21v _ _ _ _ _ _ _ _ _ _)
    ·rw [HCH.out];exact ha.2
  ·have hk2:(k == 2)=false:=by simp [k2]
   by_cases k3:k=3
   ·subst k3
    go_upto_region 7 with (go_at_call 88;go_must (refine (num_any g _ _ HM6.out).mono ?_;rintro e w7 ⟨q7,rfl,hc7,hm7,hv7⟩;have HB7:=Ak (HB6.out.reader hc7);have HM7:=Ak hm7;have HV7:=Ak hv7;have HZ7:=Ak hc7.size;clear hc7 hm7 hv7;obtain ⟨⟨-,-,-,-,-,-,-,-,b19,-⟩,-,-,-,-,-,-,-,-,z19,-⟩:=row21v HB7.out.out))
    have HB8:=Ak (HB7.out.upd (P':=⟨p5,⟨none,0,none,0,none,0⟩,none,0,fun _=>default⟩) (d':=⟨3,nm,vv,t5,noT,q7,[]⟩) (chg_set w7 gO 19 (.int .i64 q7)) (blk_put HB7.out.out 19 _ rfl) ⟨HB7.out.mem.ty,HB7.out.mem.val,HB7.out.mem.len,HSZ.out,fun i c h=>by simp at h⟩)
    have HM8:=Ak (HM7.out.chg (S:=fun k=>k=gO) (fun k e=>by have:=HB7.out.far;have:=HB7.out.glt;omega) (chg_set w7 gO 19 (.int .i64 q7)))
    obtain ⟨W8,hW8⟩:∃ W8,W8=w7.setCell ⟨gO,19,none⟩ (.int .i64 q7):=⟨_,rfl⟩
    rw [← hW8] at HB8 HM8 ⊢
    have HSO8:=Ak (show gO<W8.heap.size by rw [hW8,World.size_setCell];exact Nat.lt_of_lt_of_le HSO.out HZ7.out)
    clear hW8 b19 z19
    go_wp2_with (go_at_call 90;go_must (refine (list_any g _ _ HM8.out).mono ?_;rintro e w9 ⟨V9,l9,rfl,hl9,hc9,hm9,hv9⟩;have HB9:=Ak (HB8.out.reader hc9);have HM9:=Ak hm9;have HV9:=Ak hv9;obtain ⟨C9,e9,q9,rfl,hle,hct⟩:=rowCt_dc hl9;have HCT:=Ak hct;have HLE:=Ak hle;clear hl9 hc9 hm9 hv9 hct hle;obtain ⟨⟨-,-,-,-,-,-,-,-,-,b20⟩,-,-,-,-,-,-,-,-,-,z20⟩:=row21v HB9.out.out))
    go_meet
    case rel =>
     have hf:=HB9.out.far
     have hg:=HB9.out.glt
     have ho:=HSO8.out
     have ha:=aft_ind (nm:=nm) (v:=vv) (t:=t5) (R:=R4 s) HV7.out HV9.out
     refine ⟨⟨p5,⟨none,0,none,0,none,0⟩,C9,e9,q9⟩,⟨3,nm,vv,t5,noT,q7,l9⟩,⟨HB9.out.upd (chg_set _ _ _ _) (blk_put HB9.out.out 20 _ rfl) ⟨HB9.out.mem.ty,HB9.out.mem.val,HLE.out,HSZ.out,fun i c h=>?_⟩⟩,⟨?_⟩,⟨?_⟩⟩
     ·obtain ⟨h1,h2,h3⟩:=HCT.out i c h
      exact ⟨h1.mono fun k hk _=>⟨by omega,by omega⟩,h2.mono fun k hk _=>⟨by omega,by omega⟩,h3⟩
     ·rw [HCH.out,ha.1];exact HM9.out.chg (S:=fun k=>k=gO) (fun k e=>by omega) (chg_set _ _ _ _)
     ·rw [HCH.out];exact ha.2
   ·have hk3:(k == 3)=false:=by simp [k3]
    have ha:=aft_ax (nm:=nm) (v:=vv) (t:=t5) (R:=R4 s) k2 k3
    have HA:=Ak ha
    clear ha k2 k3
    go_wp2
    go_meet
    case rel=>exact ⟨_,_,HB6,⟨by rw [HCH.out,HA.out.1];exact HM6.out⟩,⟨by rw [HCH.out];exact HA.out.2⟩⟩
 case rest =>
  obtain ⟨P,d,HB8,HM8,HV8⟩:=hcut
  go_wp2_with (first
   | (refine wpList_load_row rfl 30 _ rfl gO rfl 30 _ (0,0) _ HB8.out.out Try.underlying30 rfl (by kernel_rfl) ?_)
   | (refine wpList_store_row rfl 30 _ _ rfl w.heap.size #[.int .i64 d.kind,.string d.nm,.int .i64 d.vars,.int .i64 d.ty.kind,.int .i64 d.ty.num,.string d.ty.name,.int .i64 d.ty.lv.kind,.int .i64 d.ty.lv.num,.slice P.pt.A d.ty.lv.kids.length P.pt.c,.slice P.pt.B d.ty.ls.length P.pt.d,.slice P.pt.K d.ty.kids.length P.pt.e,.int .i64 d.val.kind,.int .i64 d.val.num,.string d.val.name,.int .i64 d.val.lv.kind,.int .i64 d.val.lv.num,.slice P.pv.A d.val.lv.kids.length P.pv.c,.slice P.pv.B d.val.ls.length P.pv.d,.slice P.pv.K d.val.kids.length P.pv.e,.int .i64 d.params,.slice P.C d.cs.length P.e] rfl rfl 30 #[.int .i64 0,.string ⟨#[]⟩,.int .i64 0,.int .i64 0,.int .i64 0,.string ⟨#[]⟩,.int .i64 0,.int .i64 0,.slice none 0 0,.slice none 0 0,.slice none 0 0,.int .i64 0,.int .i64 0,.string ⟨#[]⟩,.int .i64 0,.int .i64 0,.slice none 0 0,.slice none 0 0,.slice none 0 0,.int .i64 0,.slice none 0 0] HB8.out.res (by kernel_rfl) rfl (all_one (l:=[.int .i64 d.kind,.string d.nm,.int .i64 d.vars,.int .i64 d.ty.kind,.int .i64 d.ty.num,.string d.ty.name,.int .i64 d.ty.lv.kind,.int .i64 d.ty.lv.num,.slice P.pt.A d.ty.lv.kids.length P.pt.c,.slice P.pt.B d.ty.ls.length P.pt.d,.slice P.pt.K d.ty.kids.length P.pt.e,.int .i64 d.val.kind,.int .i64 d.val.num,.string d.val.name,.int .i64 d.val.lv.kind,.int .i64 d.val.lv.num,.slice P.pv.A d.val.lv.kids.length P.pv.c,.slice P.pv.B d.val.ls.length P.pv.d,.slice P.pv.K d.val.kids.length P.pv.e,.int .i64 d.params,.slice P.C d.cs.length P.e]) rfl) ?_))
  refine bodyPost_ret (results_c rfl _ _ w.heap.size 30 #[.int .i64 d.kind,.string d.nm,.int .i64 d.vars,.int .i64 d.ty.kind,.int .i64 d.ty.num,.string d.ty.name,.int .i64 d.ty.lv.kind,.int .i64 d.ty.lv.num,.slice P.pt.A d.ty.lv.kids.length P.pt.c,.slice P.pt.B d.ty.ls.length P.pt.d,.slice P.pt.K d.ty.kids.length P.pt.e,.int .i64 d.val.kind,.int .i64 d.val.num,.string d.val.name,.int .i64 d.val.lv.kind,.int .i64 d.val.lv.num,.slice P.pv.A d.val.lv.kids.length P.pv.c,.slice P.pv.B d.val.ls.length P.pv.d,.slice P.pv.K d.val.kids.length P.pv.e,.int .i64 d.params,.slice P.C d.cs.length P.e] (0,0) _ rfl (setRow_heap wc w.heap.size _ _ _ _ HB8.out.res) Try.underlying30 rfl (by kernel_rfl)) rfl ?_
  exact dc_fin HB8.out HM8.out HV8.out
end Go.Proofs.Ytcgkeolgflphiaa

namespace Go.Proofs.Ytcgkeolgflphiaa
open Go.RowKit Go.Proofs.YtcgkeolgflphiaaW.PrintWords Go.RegionInvYtcgkeolgflphiaa Go.RegionEYtcgkeolgflphiaa
set_option linter.unusedVariables false

theorem dc_one (P:DPl) (d:Dc):(#[.int .i64 d.kind,.string d.nm,.int .i64 d.vars,.int .i64 d.ty.kind,.int .i64 d.ty.num,.string d.ty.name,.int .i64 d.ty.lv.kind,.int .i64 d.ty.lv.num,.slice P.pt.A d.ty.lv.kids.length P.pt.c,.slice P.pt.B d.ty.ls.length P.pt.d,.slice P.pt.K d.ty.kids.length P.pt.e,.int .i64 d.val.kind,.int .i64 d.val.num,.string d.val.name,.int .i64 d.val.lv.kind,.int .i64 d.val.lv.num,.slice P.pv.A d.val.lv.kids.length P.pv.c,.slice P.pv.B d.val.ls.length P.pv.d,.slice P.pv.K d.val.kids.length P.pv.e,.int .i64 d.params,.slice P.C d.cs.length P.e]:Array Value).all (·.oneCell')=true:=all_one (l:=[.int .i64 d.kind,.string d.nm,.int .i64 d.vars,.int .i64 d.ty.kind,.int .i64 d.ty.num,.string d.ty.name,.int .i64 d.ty.lv.kind,.int .i64 d.ty.lv.num,.slice P.pt.A d.ty.lv.kids.length P.pt.c,.slice P.pt.B d.ty.ls.length P.pt.d,.slice P.pt.K d.ty.kids.length P.pt.e,.int .i64 d.val.kind,.int .i64 d.val.num,.string d.val.name,.int .i64 d.val.lv.kind,.int .i64 d.val.lv.num,.slice P.pv.A d.val.lv.kids.length P.pv.c,.slice P.pv.B d.val.ls.length P.pv.d,.slice P.pv.K d.val.kids.length P.pv.e,.int .i64 d.params,.slice P.C d.cs.length P.e]) rfl
theorem dz_one:(#[.int .i64 0,.string ⟨#[]⟩,.int .i64 0,.int .i64 0,.int .i64 0,.string ⟨#[]⟩,.int .i64 0,.int .i64 0,.slice none 0 0,.slice none 0 0,.slice none 0 0,.int .i64 0,.int .i64 0,.string ⟨#[]⟩,.int .i64 0,.int .i64 0,.slice none 0 0,.slice none 0 0,.slice none 0 0,.int .i64 0,.slice none 0 0]:Array Value).all (·.oneCell')=true:=all_one (l:=[.int .i64 0,.string ⟨#[]⟩,.int .i64 0,.int .i64 0,.int .i64 0,.string ⟨#[]⟩,.int .i64 0,.int .i64 0,.slice none 0 0,.slice none 0 0,.slice none 0 0,.int .i64 0,.int .i64 0,.string ⟨#[]⟩,.int .i64 0,.int .i64 0,.slice none 0 0,.slice none 0 0,.slice none 0 0,.int .i64 0,.slice none 0 0]) rfl
abbrev dz:Dc:=⟨0,⟨#[]⟩,0,noT,noT,0,[]⟩
def tk4_ops:List Oper:=[
 { dst:=some 17,op:=Go.Op.build 30 #[],type:=30,pos:= "decl.go:289",after:=#[],guard:=none },
 { dst:=some 18,op:=Go.Op.move (Go.Operand.tmp 5),type:=97,pos:= "decl.go:289",after:=#[{ on:=6,ground:=Go.Ground.gcOnly Go.Departure.lateStores }],guard:=none },
 { dst:=some 19,op:=Go.Op.nilCheck (Go.Operand.tmp 18),type:=0,pos:= "decl.go:289",after:=#[{ on:=1,ground:=Go.Ground.data },{ on:=6,ground:=Go.Ground.gcOnly Go.Departure.lateStores }],guard:=none },
 { dst:=some 20,op:=Go.Op.fieldAddr 99 (Go.Operand.tmp 19) 3,type:=0,pos:= "decl.go:289",after:=#[{ on:=2,ground:=Go.Ground.data },{ on:=6,ground:=Go.Ground.gcOnly Go.Departure.lateStores }],guard:=none },
 { dst:=some 21,op:=Go.Op.load 32 (Go.Operand.tmp 20),type:=32,pos:= "decl.go:289",after:=#[{ on:=3,ground:=Go.Ground.data },{ on:=6,ground:=Go.Ground.gcOnly Go.Departure.lateStores }],guard:=none },
 { dst:=none,op:=Go.Op.store 30 (Go.Operand.tmp 2) (Go.Operand.tmp 17),type:=0,pos:= "decl.go:289",after:=#[{ on:=0,ground:=Go.Ground.data },{ on:=0,ground:=Go.Ground.phase },{ on:=1,ground:=Go.Ground.textOnly Go.Departure.lateStores },{ on:=2,ground:=Go.Ground.textOnly Go.Departure.lateStores },{ on:=3,ground:=Go.Ground.textOnly Go.Departure.lateStores },{ on:=4,ground:=Go.Ground.textOnly Go.Departure.lateStores }],guard:=none },
 { dst:=some 3,op:=Go.Op.assign (Go.Operand.const (Go.Value.int Go.IntKind.i64 0)),type:=3,pos:= "decl.go:289",after:=#[{ on:=5,ground:=Go.Ground.chain },{ on:=0,ground:=Go.Ground.phase },{ on:=1,ground:=Go.Ground.textOnly Go.Departure.lateStores },{ on:=2,ground:=Go.Ground.textOnly Go.Departure.lateStores },{ on:=3,ground:=Go.Ground.textOnly Go.Departure.lateStores },{ on:=4,ground:=Go.Ground.textOnly Go.Departure.lateStores },{ on:=5,ground:=Go.Ground.phase }],guard:=none },
 { dst:=some 4,op:=Go.Op.assign (Go.Operand.tmp 21),type:=32,pos:= "decl.go:289",after:=#[{ on:=4,ground:=Go.Ground.data },{ on:=6,ground:=Go.Ground.chain },{ on:=0,ground:=Go.Ground.phase },{ on:=1,ground:=Go.Ground.phase },{ on:=2,ground:=Go.Ground.phase },{ on:=3,ground:=Go.Ground.phase },{ on:=4,ground:=Go.Ground.phase },{ on:=5,ground:=Go.Ground.phase },{ on:=6,ground:=Go.Ground.phase }],guard:=none }]
def tk4_F (w0:World) (gR gi n6 c6:Nat) (A6:Option Addr) (N6 m6 er:Int):Nat→(Nat→Value)→Value→World→(Nat→Prop)→Prop:=fun rix=>match rix with
 | 0=>fun _ v _ _=>v=.agg #[.int .i64 0,.string ⟨#[]⟩,.int .i64 0,.int .i64 0,.int .i64 0,.string ⟨#[]⟩,.int .i64 0,.int .i64 0,.slice none 0 0,.slice none 0 0,.slice none 0 0,.int .i64 0,.int .i64 0,.string ⟨#[]⟩,.int .i64 0,.int .i64 0,.slice none 0 0,.slice none 0 0,.slice none 0 0,.int .i64 0,.slice none 0 0]
 | 1=>fun _ v _ _=>v=.pointer (some ⟨gi,0,none⟩)
 | 2=>fun _ v _ _=>v=.pointer (some ⟨gi,0,none⟩)
 | 3=>fun _ v _ _=>v=.pointer (some ⟨gi,3,none⟩)
 | 4=>fun _ v _ _=>v=.int .i64 er
 | 5=>fun τ v w O=>w.heap[gR]?=some (dzO)∧O gR
 | 6=>fun _ v _ _=>v=.int .i64 0
 | 7=>fun _ v _ _=>v=.int .i64 er
 | _=>fun _ _ _ _=>True
def tk4_C:Nat→List Nat:=fun rix=>match rix with
 | _=>[]
theorem tk4_nw2:nwB tk4_ops.toArray 2=true:=by kernel_rfl
theorem tk4_nw5:nwB tk4_ops.toArray 5=true:=by kernel_rfl
set_option maxRecDepth 100000 in
set_option maxHeartbeats 8000000 in
theorem tk4_obs (w0:World) (gR gi n6 c6:Nat) (A6:Option Addr) (N6 m6 er:Int) (hR:w0.heap[gR]?=some dzO) (hI:w0.heap[gi]?=some (rdB A6 n6 c6 N6 m6 er)) (hn2:gi≠gR) (Q:Exit→Act→World→Prop) (a0:Act) (hi2:a0.tmps.getD 2 undef=.pointer (some ⟨gR,0,none⟩)) (hi3:a0.tmps.getD 3 undef=.int .i64 0) (hi4:a0.tmps.getD 4 undef=.int .i64 0) (hi5:a0.tmps.getD 5 undef=.pointer (some ⟨gi,0,none⟩)) :
  ObsE Try.prog tk4_ops.toArray Q (est2 5 0 (fun k=>k=gR) (fun _=>False)) tk4_C (tk4_F w0 gR gi n6 c6 A6 N6 m6 er) a0 w0 tk4_ops.toArray.toList 0:=by
 have nw2:=tk4_nw2
 have nw5:=tk4_nw5
 refine ⟨?_,?_,?_,?_,?_,?_,?_,?_,trivial⟩
 ·refine ⟨⟨fun τ=>stableE_det _,leans_not⟩,?_⟩
  intro a w O hk
  exact obE_run (wanted_none rfl) (by unfold execOp;simp only [List.map_toArray,List.map_nil];kernel_rfl) rfl
 ·refine ⟨⟨fun τ=>stableE_det _,leans_not⟩,?_⟩
  intro a w O hk
  have e5:a.eval (.tmp 5)=.pointer (some ⟨gi,0,none⟩):=(hk.init 5 (initialB_of_nw nw5)).trans hi5
  exact toE (ob_move rfl e5 (wanted_none rfl) rfl)
 ·refine ⟨⟨fun τ=>stableE_det _,leans_not⟩,?_⟩
  intro a w O hk
  have e18:a.eval (.tmp 18)=.pointer (some ⟨gi,0,none⟩):=hk.fact 1 _ 18 rfl rfl rfl rfl
  exact obE_run (wanted_none rfl) (by unfold execOp;simp only [];rw [e18];go_simp) rfl
 ·refine ⟨⟨fun τ=>stableE_det _,leans_not⟩,?_⟩
  intro a w O hk
  have e19:a.eval (.tmp 19)=.pointer (some ⟨gi,0,none⟩):=hk.fact 2 _ 19 rfl rfl rfl rfl
  exact obE_run (wanted_none rfl) (by unfold execOp;simp only [];rw [e19];go_simp) rfl
 ·refine ⟨⟨fun τ=>stableE_det _,leans_not⟩,?_⟩
  intro a w O hk
  have e20:a.eval (.tmp 20)=.pointer (some ⟨gi,3,none⟩):=hk.fact 3 _ 20 rfl rfl rfl rfl
  have xI:=(hk.fix gi (est2_fix (blk_lt hI) (fun e=>hn2 e) (fun e=>e))).trans hI
  have c3:=(row4 xI).2.2.2.1
  exact obE_run (wanted_none rfl) (by unfold execOp;simp only [];rw [e20];go_simp) rfl
 ·refine ⟨⟨fun τ=>(fun v w w' O h hz hk=>⟨(hk gR (blk_lt h.1) (.inr h.2)).trans h.1,h.2⟩),leans_not⟩,?_⟩
  intro a w O hk
  have e2:a.eval (.tmp 2)=.pointer (some ⟨gR,0,none⟩):=(hk.init 2 (initialB_of_nw nw2)).trans hi2
  have e17:a.eval (.tmp 17)=.agg #[.int .i64 0,.string ⟨#[]⟩,.int .i64 0,.int .i64 0,.int .i64 0,.string ⟨#[]⟩,.int .i64 0,.int .i64 0,.slice none 0 0,.slice none 0 0,.slice none 0 0,.int .i64 0,.int .i64 0,.string ⟨#[]⟩,.int .i64 0,.int .i64 0,.slice none 0 0,.slice none 0 0,.slice none 0 0,.int .i64 0,.slice none 0 0]:=hk.fact 0 _ 17 rfl rfl rfl rfl
  have xR:=(hk.est 5 _ rfl (.inl rfl) gR (.inl ⟨rfl,rfl⟩)).trans hR
  have hs:=run_storeVar_row (P:=Try.prog) w gR 30 30 _ #[.int .i64 0,.string ⟨#[]⟩,.int .i64 0,.int .i64 0,.int .i64 0,.string ⟨#[]⟩,.int .i64 0,.int .i64 0,.slice none 0 0,.slice none 0 0,.slice none 0 0,.int .i64 0,.int .i64 0,.string ⟨#[]⟩,.int .i64 0,.int .i64 0,.slice none 0 0,.slice none 0 0,.slice none 0 0,.int .i64 0,.slice none 0 0] xR (by kernel_rfl) rfl (dz_one)
  refine obE_store (w':=w.setRow gR #[.int .i64 0,.string ⟨#[]⟩,.int .i64 0,.int .i64 0,.int .i64 0,.string ⟨#[]⟩,.int .i64 0,.int .i64 0,.slice none 0 0,.slice none 0 0,.slice none 0 0,.int .i64 0,.int .i64 0,.string ⟨#[]⟩,.int .i64 0,.int .i64 0,.slice none 0 0,.slice none 0 0,.slice none 0 0,.int .i64 0,.slice none 0 0]) (fun k=>k=gR) (wanted_none rfl) (by unfold execOp;simp only [];rw [e2,e17];simp only [Instr.storeAt,Instr.sureAddr,Sem.run_bind,Sem.run_pure,Result.andThen_ok,hs]) ⟨rfl,rfl,rfl,Nat.le_of_eq (size_setRow _ _ _).symm,fun k _ hn=>setRow_other w gR k _ (fun e=>hn (.inr (.inl ⟨rfl,e⟩)))⟩ ⟨setRow_heap w gR _ _ _ _ xR,rfl⟩ (fun k h=>.inl (.inr (.inl ⟨rfl,h⟩)))
 ·refine ⟨⟨fun τ=>stableE_det _,leans_not⟩,?_⟩
  intro a w O hk
  exact toE (ob_assign rfl rfl (wanted_none rfl) rfl)
 ·refine ⟨⟨fun τ=>stableE_det _,leans_not⟩,?_⟩
  intro a w O hk
  have e21:a.eval (.tmp 21)=.int .i64 er:=hk.fact 4 _ 21 rfl rfl rfl rfl
  exact toE (ob_assign rfl e21 (wanted_none rfl) rfl)
set_option maxRecDepth 100000 in
set_option maxHeartbeats 8000000 in
theorem tk4_region {Q:Exit→Act→World→Prop} {id:Nat} (w0:World) (gR gi n6 c6:Nat) (A6:Option Addr) (N6 m6 er:Int) {s0 s1 s6 s7 s8 s9 s10 s11 s12 s13 s14 s15 s16 s17 s18 s19 s20 s21 s22 s23 s24 s25 s26 s27 s28 s29 s30:Value} (hR:w0.heap[gR]?=some dzO) (hI:w0.heap[gi]?=some (rdB A6 n6 c6 N6 m6 er)) (hn2:gi≠gR)
  (hend:∀ (w':World) (v5:Value) (O5:Nat→Prop),Chg (fun k=>(fun k=>k=gR) k∨(fun _=>False) k) w0 w'→(w'.heap[gR]?=some (dzO)∧O5 gR)→(∀ k,O5 k→k<w'.heap.size∧¬ Fix w0 (est2 5 0 (fun k=>k=gR) (fun _=>False)) k)→Q .normal { tmps:=(s0 :: s1 :: (.pointer (some ⟨gR,0,none⟩)) :: (.int .i64 0) :: (.int .i64 er) :: (.pointer (some ⟨gi,0,none⟩)) :: s6 :: s7 :: s8 :: s9 :: s10 :: s11 :: s12 :: s13 :: s14 :: s15 :: s16 :: (.agg #[.int .i64 0,.string ⟨#[]⟩,.int .i64 0,.int .i64 0,.int .i64 0,.string ⟨#[]⟩,.int .i64 0,.int .i64 0,.slice none 0 0,.slice none 0 0,.slice none 0 0,.int .i64 0,.int .i64 0,.string ⟨#[]⟩,.int .i64 0,.int .i64 0,.slice none 0 0,.slice none 0 0,.slice none 0 0,.int .i64 0,.slice none 0 0]) :: (.pointer (some ⟨gi,0,none⟩)) :: (.pointer (some ⟨gi,0,none⟩)) :: (.pointer (some ⟨gi,3,none⟩)) :: (.int .i64 er) :: s22 :: s23 :: s24 :: s25 :: s26 :: s27 :: s28 :: s29 :: s30 :: []:List Value).toArray,defers:=[] } w') :
  (Code.region id tk4_ops.toArray true).wp Try.prog Q { tmps:=(s0 :: s1 :: (.pointer (some ⟨gR,0,none⟩)) :: (.int .i64 0) :: (.int .i64 0) :: (.pointer (some ⟨gi,0,none⟩)) :: s6 :: s7 :: s8 :: s9 :: s10 :: s11 :: s12 :: s13 :: s14 :: s15 :: s16 :: s17 :: s18 :: s19 :: s20 :: s21 :: s22 :: s23 :: s24 :: s25 :: s26 :: s27 :: s28 :: s29 :: s30 :: []:List Value).toArray,defers:=[] } w0:=by
 refine wp_region_est (by kernel_rfl) (est2 5 0 (fun k=>k=gR) (fun _=>False)) tk4_C (tk4_F w0 gR gi n6 c6 A6 N6 m6 er) (est2_dis (fun _ _ h=>h)) (est2_range (fun k hk=>hk ▸ blk_lt hR) (fun _ h=>h.elim)) (by rfl) (by kernel_rfl) (tk4_obs w0.drew gR gi n6 c6 A6 N6 m6 er hR hI hn2 _ _ rfl rfl rfl rfl) ?_
 intro a w' O hd hs hb hf hf2 ha hsame
 have hl:=slots_eq (ops:=tk4_ops.toArray) [(3,.int .i64 0),(4,.int .i64 er),(17,.agg #[.int .i64 0,.string ⟨#[]⟩,.int .i64 0,.int .i64 0,.int .i64 0,.string ⟨#[]⟩,.int .i64 0,.int .i64 0,.slice none 0 0,.slice none 0 0,.slice none 0 0,.int .i64 0,.int .i64 0,.string ⟨#[]⟩,.int .i64 0,.int .i64 0,.slice none 0 0,.slice none 0 0,.slice none 0 0,.int .i64 0,.slice none 0 0]),(18,.pointer (some ⟨gi,0,none⟩)),(19,.pointer (some ⟨gi,0,none⟩)),(20,.pointer (some ⟨gi,3,none⟩)),(21,.int .i64 er)] (show a.tmps.size=31 from hs) (fun i h=>hsame i h) ⟨(hf 6 _ 3 rfl rfl (by decide)).1,(hf 7 _ 4 rfl rfl (by decide)).1,(hf 0 _ 17 rfl rfl (by decide)).1,(hf 1 _ 18 rfl rfl (by decide)).1,(hf 2 _ 19 rfl rfl (by decide)).1,(hf 3 _ 20 rfl rfl (by decide)).1,(hf 4 _ 21 rfl rfl (by decide)).1,trivial⟩ (by kernel_rfl)
 obtain ⟨tmps,defers⟩:=a
 obtain rfl:defers=[]:=hd
 have hl':tmps=_:=hl
 rw [hl']
 obtain ⟨⟨v5,hv5⟩,ho5⟩:=hf2 5 _ rfl rfl (by decide)
 have hb':=est2_chg hb
 refine Eq.mp ?_ (hend w' v5 (O 5) ⟨hb'.os,hb'.tape,hb'.output,hb'.size,hb'.block⟩ hv5 ho5)
 kernel_rfl

def tk5_ops:List Oper:=[
 { dst:=some 22,op:=Go.Op.load 30 (Go.Operand.tmp 6),type:=30,pos:= "decl.go:291",after:=#[],guard:=none },
 { dst:=some 23,op:=Go.Op.move (Go.Operand.tmp 0),type:=31,pos:= "decl.go:291",after:=#[],guard:=none },
 { dst:=some 24,op:=Go.Op.call { callee:=Go.Callee.builtin Go.Builtin.len,args:=#[Go.Operand.tmp 23],argTypes:=#[31] },type:=3,pos:= "decl.go:291",after:=#[{ on:=1,ground:=Go.Ground.data }],guard:=none },
 { dst:=some 25,op:=Go.Op.move (Go.Operand.tmp 5),type:=97,pos:= "decl.go:291",after:=#[],guard:=none },
 { dst:=some 26,op:=Go.Op.nilCheck (Go.Operand.tmp 25),type:=0,pos:= "decl.go:291",after:=#[{ on:=3,ground:=Go.Ground.data }],guard:=none },
 { dst:=some 27,op:=Go.Op.fieldAddr 99 (Go.Operand.tmp 26) 0,type:=0,pos:= "decl.go:291",after:=#[{ on:=4,ground:=Go.Ground.data }],guard:=none },
 { dst:=some 28,op:=Go.Op.load 31 (Go.Operand.tmp 27),type:=31,pos:= "decl.go:291",after:=#[{ on:=5,ground:=Go.Ground.data }],guard:=none },
 { dst:=some 29,op:=Go.Op.call { callee:=Go.Callee.builtin Go.Builtin.len,args:=#[Go.Operand.tmp 28],argTypes:=#[31] },type:=3,pos:= "decl.go:291",after:=#[{ on:=6,ground:=Go.Ground.data }],guard:=none },
 { dst:=some 30,op:=Go.Op.binOp Go.BinOp.sub 3 (Go.Operand.tmp 24) (Go.Operand.tmp 29) 3,type:=3,pos:= "decl.go:291",after:=#[{ on:=2,ground:=Go.Ground.data },{ on:=7,ground:=Go.Ground.data },{ on:=9,ground:=Go.Ground.gcOnly Go.Departure.lateStores }],guard:=none },
 { dst:=none,op:=Go.Op.store 30 (Go.Operand.tmp 2) (Go.Operand.tmp 22),type:=0,pos:= "decl.go:291",after:=#[{ on:=0,ground:=Go.Ground.data },{ on:=0,ground:=Go.Ground.phase },{ on:=1,ground:=Go.Ground.textOnly Go.Departure.lateStores },{ on:=2,ground:=Go.Ground.textOnly Go.Departure.lateStoresUnsure },{ on:=3,ground:=Go.Ground.textOnly Go.Departure.lateStores },{ on:=4,ground:=Go.Ground.textOnly Go.Departure.lateStores },{ on:=5,ground:=Go.Ground.textOnly Go.Departure.lateStores },{ on:=6,ground:=Go.Ground.textOnly Go.Departure.lateStores },{ on:=7,ground:=Go.Ground.textOnly Go.Departure.lateStoresUnsure },{ on:=8,ground:=Go.Ground.textOnly Go.Departure.lateStores }],guard:=none },
 { dst:=some 3,op:=Go.Op.assign (Go.Operand.tmp 30),type:=3,pos:= "decl.go:291",after:=#[{ on:=8,ground:=Go.Ground.data },{ on:=9,ground:=Go.Ground.chain },{ on:=0,ground:=Go.Ground.phase },{ on:=1,ground:=Go.Ground.phase },{ on:=2,ground:=Go.Ground.phase },{ on:=3,ground:=Go.Ground.phase },{ on:=4,ground:=Go.Ground.phase },{ on:=5,ground:=Go.Ground.phase },{ on:=6,ground:=Go.Ground.phase },{ on:=7,ground:=Go.Ground.phase },{ on:=8,ground:=Go.Ground.phase },{ on:=9,ground:=Go.Ground.phase }],guard:=none },
 { dst:=some 4,op:=Go.Op.assign (Go.Operand.const (Go.Value.int Go.IntKind.i64 0)),type:=32,pos:= "decl.go:291",after:=#[{ on:=10,ground:=Go.Ground.chain },{ on:=0,ground:=Go.Ground.phase },{ on:=1,ground:=Go.Ground.phase },{ on:=2,ground:=Go.Ground.phase },{ on:=3,ground:=Go.Ground.phase },{ on:=4,ground:=Go.Ground.phase },{ on:=5,ground:=Go.Ground.phase },{ on:=6,ground:=Go.Ground.phase },{ on:=7,ground:=Go.Ground.phase },{ on:=8,ground:=Go.Ground.phase },{ on:=9,ground:=Go.Ground.phase },{ on:=10,ground:=Go.Ground.phase }],guard:=none }]
def tk5_F (w0:World) (gR gx gi n n6 c c6:Nat) (A A6:Option Addr) (N6 m6 er:Int) (P:DPl) (d:Dc):Nat→(Nat→Value)→Value→World→(Nat→Prop)→Prop:=fun rix=>match rix with
 | 0=>fun _ v _ _=>v=dcV P d
 | 1=>fun _ v _ _=>v=.slice A n c
 | 2=>fun _ v _ _=>v=.int .i64 n
 | 3=>fun _ v _ _=>v=.pointer (some ⟨gi,0,none⟩)
 | 4=>fun _ v _ _=>v=.pointer (some ⟨gi,0,none⟩)
 | 5=>fun _ v _ _=>v=.pointer (some ⟨gi,0,none⟩)
 | 6=>fun _ v _ _=>v=.slice A6 n6 c6
 | 7=>fun _ v _ _=>v=.int .i64 n6
 | 8=>fun _ v _ _=>v=.int .i64 (IntKind.i64.wrap ((n:Int) - n6))
 | 9=>fun τ v w O=>w.heap[gR]?=some (dcO P d)∧O gR
 | 10=>fun _ v _ _=>v=.int .i64 (IntKind.i64.wrap ((n:Int) - n6))
 | 11=>fun _ v _ _=>v=.int .i64 0
 | _=>fun _ _ _ _=>True
def tk5_C:Nat→List Nat:=fun rix=>match rix with
 | _=>[]
theorem tk5_nw0:nwB tk5_ops.toArray 0=true:=by kernel_rfl
theorem tk5_nw2:nwB tk5_ops.toArray 2=true:=by kernel_rfl
theorem tk5_nw5:nwB tk5_ops.toArray 5=true:=by kernel_rfl
theorem tk5_nw6:nwB tk5_ops.toArray 6=true:=by kernel_rfl
set_option maxRecDepth 100000 in
set_option maxHeartbeats 8000000 in
theorem tk5_obs (w0:World) (gR gx gi n n6 c c6:Nat) (A A6:Option Addr) (N6 m6 er:Int) (P:DPl) (d:Dc) (hR:w0.heap[gR]?=some dzO) (hX:w0.heap[gx]?=some (dcO P d)) (hI:w0.heap[gi]?=some (rdB A6 n6 c6 N6 m6 er)) (hn1:gx≠gR) (hn2:gi≠gR) (Q:Exit→Act→World→Prop) (a0:Act) (hi0:a0.tmps.getD 0 undef=.slice A n c) (hi2:a0.tmps.getD 2 undef=.pointer (some ⟨gR,0,none⟩)) (hi3:a0.tmps.getD 3 undef=.int .i64 0) (hi4:a0.tmps.getD 4 undef=.int .i64 0) (hi5:a0.tmps.getD 5 undef=.pointer (some ⟨gi,0,none⟩)) (hi6:a0.tmps.getD 6 undef=.pointer (some ⟨gx,0,none⟩)) :
  ObsE Try.prog tk5_ops.toArray Q (est2 9 0 (fun k=>k=gR) (fun _=>False)) tk5_C (tk5_F w0 gR gx gi n n6 c c6 A A6 N6 m6 er P d) a0 w0 tk5_ops.toArray.toList 0:=by
 have nw0:=tk5_nw0
 have nw2:=tk5_nw2
 have nw5:=tk5_nw5
 have nw6:=tk5_nw6
 refine ⟨?_,?_,?_,?_,?_,?_,?_,?_,?_,?_,?_,?_,trivial⟩
 ·refine ⟨⟨fun τ=>stableE_det _,leans_not⟩,?_⟩
  intro a w O hk
  have e6:a.eval (.tmp 6)=.pointer (some ⟨gx,0,none⟩):=(hk.init 6 (initialB_of_nw nw6)).trans hi6
  have xX:=(hk.fix gx (est2_fix (blk_lt hX) (fun e=>hn1 e) (fun e=>e))).trans hX
  exact obE_loadRow rfl e6 xX Try.underlying30 rfl (by kernel_rfl) (wanted_none rfl) rfl
 ·refine ⟨⟨fun τ=>stableE_det _,leans_not⟩,?_⟩
  intro a w O hk
  have e0:a.eval (.tmp 0)=.slice A n c:=(hk.init 0 (initialB_of_nw nw0)).trans hi0
  exact toE (ob_move rfl e0 (wanted_none rfl) rfl)
 ·refine ⟨⟨fun τ=>stableE_det _,leans_not⟩,?_⟩
  intro a w O hk
  have e23:a.eval (.tmp 23)=.slice A n c:=hk.fact 1 _ 23 rfl rfl rfl rfl
  exact toE (ob_len rfl e23 Try.underlying31 (wanted_none rfl) rfl)
 ·refine ⟨⟨fun τ=>stableE_det _,leans_not⟩,?_⟩
  intro a w O hk
  have e5:a.eval (.tmp 5)=.pointer (some ⟨gi,0,none⟩):=(hk.init 5 (initialB_of_nw nw5)).trans hi5
  exact toE (ob_move rfl e5 (wanted_none rfl) rfl)
 ·refine ⟨⟨fun τ=>stableE_det _,leans_not⟩,?_⟩
  intro a w O hk
  have e25:a.eval (.tmp 25)=.pointer (some ⟨gi,0,none⟩):=hk.fact 3 _ 25 rfl rfl rfl rfl
  exact obE_run (wanted_none rfl) (by unfold execOp;simp only [];rw [e25];go_simp) rfl
 ·refine ⟨⟨fun τ=>stableE_det _,leans_not⟩,?_⟩
  intro a w O hk
  have e26:a.eval (.tmp 26)=.pointer (some ⟨gi,0,none⟩):=hk.fact 4 _ 26 rfl rfl rfl rfl
  exact obE_run (wanted_none rfl) (by unfold execOp;simp only [];rw [e26];go_simp) rfl
 ·refine ⟨⟨fun τ=>stableE_det _,leans_not⟩,?_⟩
  intro a w O hk
  have e27:a.eval (.tmp 27)=.pointer (some ⟨gi,0,none⟩):=hk.fact 5 _ 27 rfl rfl rfl rfl
  have xI:=(hk.fix gi (est2_fix (blk_lt hI) (fun e=>hn2 e) (fun e=>e))).trans hI
  have c0:=(row4 xI).1
  exact toE (ob_loadSlice rfl e27 Try.underlying31 c0 (wanted_none rfl) rfl)
 ·refine ⟨⟨fun τ=>stableE_det _,leans_not⟩,?_⟩
  intro a w O hk
  have e28:a.eval (.tmp 28)=.slice A6 n6 c6:=hk.fact 6 _ 28 rfl rfl rfl rfl
  exact toE (ob_len rfl e28 Try.underlying31 (wanted_none rfl) rfl)
 ·refine ⟨⟨fun τ=>stableE_det _,leans_not⟩,?_⟩
  intro a w O hk
  have e24:a.eval (.tmp 24)=.int .i64 n:=hk.fact 2 _ 24 rfl rfl rfl rfl
  have e29:a.eval (.tmp 29)=.int .i64 n6:=hk.fact 7 _ 29 rfl rfl rfl rfl
  exact obE_run (wanted_none rfl) (by unfold execOp;simp only [];rw [e24,e29];go_simp) rfl
 ·refine ⟨⟨fun τ=>(fun v w w' O h hz hk=>⟨(hk gR (blk_lt h.1) (.inr h.2)).trans h.1,h.2⟩),leans_not⟩,?_⟩
  intro a w O hk
  have e2:a.eval (.tmp 2)=.pointer (some ⟨gR,0,none⟩):=(hk.init 2 (initialB_of_nw nw2)).trans hi2
  have e22:a.eval (.tmp 22)=dcV P d:=hk.fact 0 _ 22 rfl rfl rfl rfl
  have xR:=(hk.est 9 _ rfl (.inl rfl) gR (.inl ⟨rfl,rfl⟩)).trans hR
  have hs:=run_storeVar_row (P:=Try.prog) w gR 30 30 _ #[.int .i64 d.kind,.string d.nm,.int .i64 d.vars,.int .i64 d.ty.kind,.int .i64 d.ty.num,.string d.ty.name,.int .i64 d.ty.lv.kind,.int .i64 d.ty.lv.num,.slice P.pt.A d.ty.lv.kids.length P.pt.c,.slice P.pt.B d.ty.ls.length P.pt.d,.slice P.pt.K d.ty.kids.length P.pt.e,.int .i64 d.val.kind,.int .i64 d.val.num,.string d.val.name,.int .i64 d.val.lv.kind,.int .i64 d.val.lv.num,.slice P.pv.A d.val.lv.kids.length P.pv.c,.slice P.pv.B d.val.ls.length P.pv.d,.slice P.pv.K d.val.kids.length P.pv.e,.int .i64 d.params,.slice P.C d.cs.length P.e] xR (by kernel_rfl) rfl (dc_one P d)
  refine obE_store (w':=w.setRow gR #[.int .i64 d.kind,.string d.nm,.int .i64 d.vars,.int .i64 d.ty.kind,.int .i64 d.ty.num,.string d.ty.name,.int .i64 d.ty.lv.kind,.int .i64 d.ty.lv.num,.slice P.pt.A d.ty.lv.kids.length P.pt.c,.slice P.pt.B d.ty.ls.length P.pt.d,.slice P.pt.K d.ty.kids.length P.pt.e,.int .i64 d.val.kind,.int .i64 d.val.num,.string d.val.name,.int .i64 d.val.lv.kind,.int .i64 d.val.lv.num,.slice P.pv.A d.val.lv.kids.length P.pv.c,.slice P.pv.B d.val.ls.length P.pv.d,.slice P.pv.K d.val.kids.length P.pv.e,.int .i64 d.params,.slice P.C d.cs.length P.e]) (fun k=>k=gR) (wanted_none rfl) (by unfold execOp;simp only [];rw [e2,e22];simp only [dcV,Instr.storeAt,Instr.sureAddr,Sem.run_bind,Sem.run_pure,Result.andThen_ok,hs]) ⟨rfl,rfl,rfl,Nat.le_of_eq (size_setRow _ _ _).symm,fun k _ hn=>setRow_other w gR k _ (fun e=>hn (.inr (.inl ⟨rfl,e⟩)))⟩ ⟨setRow_heap w gR _ _ _ _ xR,rfl⟩ (fun k h=>.inl (.inr (.inl ⟨rfl,h⟩)))
 ·refine ⟨⟨fun τ=>stableE_det _,leans_not⟩,?_⟩
  intro a w O hk
  have e30:a.eval (.tmp 30)=.int .i64 (IntKind.i64.wrap ((n:Int) - n6)):=hk.fact 8 _ 30 rfl rfl rfl rfl
  exact toE (ob_assign rfl e30 (wanted_none rfl) rfl)
 ·refine ⟨⟨fun τ=>stableE_det _,leans_not⟩,?_⟩
  intro a w O hk
  exact toE (ob_assign rfl rfl (wanted_none rfl) rfl)
set_option maxRecDepth 100000 in
set_option maxHeartbeats 8000000 in
theorem tk5_region {Q:Exit→Act→World→Prop} {id:Nat} (w0:World) (gR gx gi n n6 c c6:Nat) (A A6:Option Addr) (N6 m6 er:Int) (P:DPl) (d:Dc) {s1 s7 s8 s9 s10 s11 s12 s13 s14 s15 s16 s17 s18 s19 s20 s21 s22 s23 s24 s25 s26 s27 s28 s29 s30:Value} (hR:w0.heap[gR]?=some dzO) (hX:w0.heap[gx]?=some (dcO P d)) (hI:w0.heap[gi]?=some (rdB A6 n6 c6 N6 m6 er)) (hn1:gx≠gR) (hn2:gi≠gR)
  (hend:∀ (w':World) (v9:Value) (O9:Nat→Prop),Chg (fun k=>(fun k=>k=gR) k∨(fun _=>False) k) w0 w'→(w'.heap[gR]?=some (dcO P d)∧O9 gR)→(∀ k,O9 k→k<w'.heap.size∧¬ Fix w0 (est2 9 0 (fun k=>k=gR) (fun _=>False)) k)→Q .normal { tmps:=((.slice A n c) :: s1 :: (.pointer (some ⟨gR,0,none⟩)) :: (.int .i64 (IntKind.i64.wrap ((n:Int) - n6))) :: (.int .i64 0) :: (.pointer (some ⟨gi,0,none⟩)) :: (.pointer (some ⟨gx,0,none⟩)) :: s7 :: s8 :: s9 :: s10 :: s11 :: s12 :: s13 :: s14 :: s15 :: s16 :: s17 :: s18 :: s19 :: s20 :: s21 :: (dcV P d) :: (.slice A n c) :: (.int .i64 n) :: (.pointer (some ⟨gi,0,none⟩)) :: (.pointer (some ⟨gi,0,none⟩)) :: (.pointer (some ⟨gi,0,none⟩)) :: (.slice A6 n6 c6) :: (.int .i64 n6) :: (.int .i64 (IntKind.i64.wrap ((n:Int) - n6))) :: []:List Value).toArray,defers:=[] } w') :
  (Code.region id tk5_ops.toArray true).wp Try.prog Q { tmps:=((.slice A n c) :: s1 :: (.pointer (some ⟨gR,0,none⟩)) :: (.int .i64 0) :: (.int .i64 0) :: (.pointer (some ⟨gi,0,none⟩)) :: (.pointer (some ⟨gx,0,none⟩)) :: s7 :: s8 :: s9 :: s10 :: s11 :: s12 :: s13 :: s14 :: s15 :: s16 :: s17 :: s18 :: s19 :: s20 :: s21 :: s22 :: s23 :: s24 :: s25 :: s26 :: s27 :: s28 :: s29 :: s30 :: []:List Value).toArray,defers:=[] } w0:=by
 refine wp_region_est (by kernel_rfl) (est2 9 0 (fun k=>k=gR) (fun _=>False)) tk5_C (tk5_F w0 gR gx gi n n6 c c6 A A6 N6 m6 er P d) (est2_dis (fun _ _ h=>h)) (est2_range (fun k hk=>hk ▸ blk_lt hR) (fun _ h=>h.elim)) (by rfl) (by kernel_rfl) (tk5_obs w0.drew gR gx gi n n6 c c6 A A6 N6 m6 er P d hR hX hI hn1 hn2 _ _ rfl rfl rfl rfl rfl rfl) ?_
 intro a w' O hd hs hb hf hf2 ha hsame
 have hl:=slots_eq (ops:=tk5_ops.toArray) [(3,.int .i64 (IntKind.i64.wrap ((n:Int) - n6))),(4,.int .i64 0),(22,dcV P d),(23,.slice A n c),(24,.int .i64 n),(25,.pointer (some ⟨gi,0,none⟩)),(26,.pointer (some ⟨gi,0,none⟩)),(27,.pointer (some ⟨gi,0,none⟩)),(28,.slice A6 n6 c6),(29,.int .i64 n6),(30,.int .i64 (IntKind.i64.wrap ((n:Int) - n6)))] (show a.tmps.size=31 from hs) (fun i h=>hsame i h) ⟨(hf 10 _ 3 rfl rfl (by decide)).1,(hf 11 _ 4 rfl rfl (by decide)).1,(hf 0 _ 22 rfl rfl (by decide)).1,(hf 1 _ 23 rfl rfl (by decide)).1,(hf 2 _ 24 rfl rfl (by decide)).1,(hf 3 _ 25 rfl rfl (by decide)).1,(hf 4 _ 26 rfl rfl (by decide)).1,(hf 5 _ 27 rfl rfl (by decide)).1,(hf 6 _ 28 rfl rfl (by decide)).1,(hf 7 _ 29 rfl rfl (by decide)).1,(hf 8 _ 30 rfl rfl (by decide)).1,trivial⟩ (by kernel_rfl)
 obtain ⟨tmps,defers⟩:=a
 obtain rfl:defers=[]:=hd
 have hl':tmps=_:=hl
 rw [hl']
 obtain ⟨⟨v9,hv9⟩,ho9⟩:=hf2 9 _ rfl rfl (by decide)
 have hb':=est2_chg hb
 refine Eq.mp ?_ (hend w' v9 (O 9) ⟨hb'.os,hb'.tape,hb'.output,hb'.size,hb'.block⟩ hv9 ho9)
 kernel_rfl

end Go.Proofs.Ytcgkeolgflphiaa

namespace Go.Proofs.Ytcgkeolgflphiaa
open Go.RowKit Go.Proofs.YtcgkeolgflphiaaW.PrintWords Go.RegionInvYtcgkeolgflphiaa

theorem dcB_pos1 (d:Dc):1≤(dcB d).length:=by have:=dcB_len3 d;omega
theorem dz_in (w:World) (S:Nat→Prop):DcS w S pl00 dz:=⟨noT_in _ _,noT_in _ _,⟨Nat.le_refl _,Nat.zero_le _⟩,by decide,fun i c h=>by simp at h⟩
set_option maxRecDepth 100000 in
set_option maxHeartbeats 8000000 in
theorem take1_calls (A:Option Addr) (n c:Nat) (xs:List Int) (w:World) (h:Bs w w.heap.size A n c xs) :
  Calls Try.prog 43 #[.slice A n c] w (TakeP eDc dcV (dcR xs) xs w):=by
 have HS:=Ak h
 have HR1:=Ak (bs_new (O1:=dzO) (N:=0) (m:=0) h)
 have hb1:=below_alloc (below_alloc (Below.refl w.heap.size w) dzO) (rdB A n c 0 0 0)
 have HX1:=Ak (blk_alloc (blk_new w dzO) (rdB A n c 0 0 0))
 have HB1:=Ak hb1
 have HZ1:=Ak (show ((w.alloc dzO).alloc (rdB A n c 0 0 0)).heap.size=w.heap.size+2 by simp)
 clear h hb1
 go_enter Try.func43,Try.ntmps43
 go_upto_region 2 with (fail)
 obtain ⟨W1,hW1⟩:∃ W1,W1=(w.alloc dzO).alloc (rdB A n c 0 0 0):=⟨_,rfl⟩
 rw [← hW1] at HR1 HX1 HB1 HZ1 ⊢
 clear hW1
 go_upto_region 3 with (first
  | (go_at_call 68;go_must (refine (decl_any (w.heap.size+1) (.ok xs) _ ⟨0,0,HR1.out⟩).mono ?_;rintro e w5 ⟨P5,d5,rfl,hl5,hc5,hm5,hv5⟩;have HX5:=Ak ((hc5.block _ (blk_lt HX1.out) (by omega)).trans HX1.out);have HL5:=Ak hl5;have HC5:=Ak hc5;have HV5:=Ak hv5;have HM5:=Ak (RS.box hm5);clear hl5 hc5 hm5 hv5;simp only [dcV]))
  | (refine wpList_store_row rfl 30 _ _ rfl w5.heap.size #[.int .i64 d5.kind,.string d5.nm,.int .i64 d5.vars,.int .i64 d5.ty.kind,.int .i64 d5.ty.num,.string d5.ty.name,.int .i64 d5.ty.lv.kind,.int .i64 d5.ty.lv.num,.slice P5.pt.A d5.ty.lv.kids.length P5.pt.c,.slice P5.pt.B d5.ty.ls.length P5.pt.d,.slice P5.pt.K d5.ty.kids.length P5.pt.e,.int .i64 d5.val.kind,.int .i64 d5.val.num,.string d5.val.name,.int .i64 d5.val.lv.kind,.int .i64 d5.val.lv.num,.slice P5.pv.A d5.val.lv.kids.length P5.pv.c,.slice P5.pv.B d5.val.ls.length P5.pv.d,.slice P5.pv.K d5.val.kids.length P5.pv.e,.int .i64 d5.params,.slice P5.C d5.cs.length P5.e] rfl rfl 30 #[.int .i64 0,.string ⟨#[]⟩,.int .i64 0,.int .i64 0,.int .i64 0,.string ⟨#[]⟩,.int .i64 0,.int .i64 0,.slice none 0 0,.slice none 0 0,.slice none 0 0,.int .i64 0,.int .i64 0,.string ⟨#[]⟩,.int .i64 0,.int .i64 0,.slice none 0 0,.slice none 0 0,.slice none 0 0,.int .i64 0,.slice none 0 0] (blk_new _ _) (by kernel_rfl) rfl (all_one (l:=[.int .i64 d5.kind,.string d5.nm,.int .i64 d5.vars,.int .i64 d5.ty.kind,.int .i64 d5.ty.num,.string d5.ty.name,.int .i64 d5.ty.lv.kind,.int .i64 d5.ty.lv.num,.slice P5.pt.A d5.ty.lv.kids.length P5.pt.c,.slice P5.pt.B d5.ty.ls.length P5.pt.d,.slice P5.pt.K d5.ty.kids.length P5.pt.e,.int .i64 d5.val.kind,.int .i64 d5.val.num,.string d5.val.name,.int .i64 d5.val.lv.kind,.int .i64 d5.val.lv.num,.slice P5.pv.A d5.val.lv.kids.length P5.pv.c,.slice P5.pv.B d5.val.ls.length P5.pv.d,.slice P5.pv.K d5.val.kids.length P5.pv.e,.int .i64 d5.params,.slice P5.C d5.cs.length P5.e]) rfl) ?_))
 obtain ⟨A6,n6,c6,N6,m6,er,hg6,hsem⟩:=HM5.out
 have hbx:=dc_boxed w5 P5 d5
 have HY6:=Ak hbx.1
 have HG6:=Ak (blk_below hg6 hbx.2)
 have HX6:=Ak (blk_below HX5.out hbx.2)
 have HC6:=Ak (chg_trans HC5.out (Chg.of_below hbx.2))
 have HL6:=Ak (HL5.out.same fun k _ hk=>hbx.2.block k hk)
 have HGX:=Ak (show w5.heap.size≠w.heap.size by have:=blk_lt HX5.out;omega)
 obtain ⟨gx,hgx⟩:∃ gx,gx=w5.heap.size:=⟨_,rfl⟩
 obtain ⟨W6,hW6⟩:∃ W6,W6=(w5.alloc (.cells #[.int .i64 0,.string ⟨#[]⟩,.int .i64 0,.int .i64 0,.int .i64 0,.string ⟨#[]⟩,.int .i64 0,.int .i64 0,.slice none 0 0,.slice none 0 0,.slice none 0 0,.int .i64 0,.int .i64 0,.string ⟨#[]⟩,.int .i64 0,.int .i64 0,.slice none 0 0,.slice none 0 0,.slice none 0 0,.int .i64 0,.slice none 0 0] 30 (0,0))).setRow w5.heap.size #[.int .i64 d5.kind,.string d5.nm,.int .i64 d5.vars,.int .i64 d5.ty.kind,.int .i64 d5.ty.num,.string d5.ty.name,.int .i64 d5.ty.lv.kind,.int .i64 d5.ty.lv.num,.slice P5.pt.A d5.ty.lv.kids.length P5.pt.c,.slice P5.pt.B d5.ty.ls.length P5.pt.d,.slice P5.pt.K d5.ty.kids.length P5.pt.e,.int .i64 d5.val.kind,.int .i64 d5.val.num,.string d5.val.name,.int .i64 d5.val.lv.kind,.int .i64 d5.val.lv.num,.slice P5.pv.A d5.val.lv.kids.length P5.pv.c,.slice P5.pv.B d5.val.ls.length P5.pv.d,.slice P5.pv.K d5.val.kids.length P5.pv.e,.int .i64 d5.params,.slice P5.C d5.cs.length P5.e]:=⟨_,rfl⟩
 replace HY6:Aside0 (W6.heap[w5.heap.size]?=some (dcO P5 d5)):=by rw [hW6];exact HY6
 replace HG6:Aside0 (W6.heap[w.heap.size+1]?=some (rdB A6 n6 c6 N6 m6 er)):=by rw [hW6];exact HG6
 replace HX6:Aside0 (W6.heap[w.heap.size]?=some dzO):=by rw [hW6];exact HX6
 replace HC6:Aside0 (Chg (fun k=>k=w.heap.size+1) W1 W6):=by rw [hW6];exact HC6
 replace HL6:Aside0 (DcS W6 (fun b=>W1.heap.size≤b) P5 d5):=by rw [hW6];exact HL6
 rw [← hW6]
 rw [← hgx] at HY6 HGX ⊢
 clear hg6 hgx hW6 hbx HX5 HL5 HC5 HM5
 obtain ⟨-,-,-,c3,-,-,-,-⟩:=row4 HG6.out
 cases hR:dcR xs with
 | error k =>
  have hs2:er=k∧k≠0:=by have h:=hsem;rw [show nextR (.ok xs) dcR=dcR xs from rfl,hR] at h;exact h
  obtain ⟨rfl,hne⟩:=hs2
  have he':(er != 0)=true:=by simp [hne]
  have HNE:=Ak hne
  have HRE:=Ak hR
  clear hR hsem hne
  go_upto_region 4 with (fail)
  refine tk4_region W6 w.heap.size (w.heap.size+1) n6 c6 A6 N6 m6 er HX6.out HG6.out (by omega) ?_
  intro w7 v13 O13 hch hx7 hO
  have HX7:=Ak hx7.1
  have HC7:=Ak (hch.mono (S':=fun k=>k=w.heap.size) fun k h=>h.elim id False.elim)
  clear hch hx7 hO c3
  go_wp2
  refine bodyPost_ret (results_ctt rfl _ _ w.heap.size 30 #[.int .i64 0,.string ⟨#[]⟩,.int .i64 0,.int .i64 0,.int .i64 0,.string ⟨#[]⟩,.int .i64 0,.int .i64 0,.slice none 0 0,.slice none 0 0,.slice none 0 0,.int .i64 0,.int .i64 0,.string ⟨#[]⟩,.int .i64 0,.int .i64 0,.slice none 0 0,.slice none 0 0,.slice none 0 0,.int .i64 0,.slice none 0 0] (0,0) _ rfl HX7.out Try.underlying30 rfl (by kernel_rfl)) rfl ?_
  exact ⟨pl00,dz,0,er,rfl,dz_in _ _,close_below HB1.out HZ1.out HC6.out HC7.out,by rw [HRE.out];exact ⟨rfl,HNE.out⟩⟩
 | ok y =>
  have hs2:er=0:=by have h:=hsem;rw [show nextR (.ok xs) dcR=dcR xs from rfl,hR] at h;exact h.1
  subst hs2
  have HSEM:=Ak hsem
  clear hR hsem
  go_upto_region 5 with (fail)
  refine tk5_region W6 w.heap.size gx (w.heap.size+1) n n6 c c6 A A6 N6 m6 0 P5 d5 HX6.out HY6.out HG6.out HGX.out (by omega) ?_
  intro w7 v13 O13 hch hx7 hO
  have HX7:=Ak hx7.1
  have HC7:=Ak (hch.mono (S':=fun k=>k=w.heap.size) fun k h=>h.elim id False.elim)
  clear hch hx7 hO c3
  go_wp2
  refine bodyPost_ret (results_ctt rfl _ _ w.heap.size 30 #[.int .i64 d5.kind,.string d5.nm,.int .i64 d5.vars,.int .i64 d5.ty.kind,.int .i64 d5.ty.num,.string d5.ty.name,.int .i64 d5.ty.lv.kind,.int .i64 d5.ty.lv.num,.slice P5.pt.A d5.ty.lv.kids.length P5.pt.c,.slice P5.pt.B d5.ty.ls.length P5.pt.d,.slice P5.pt.K d5.ty.kids.length P5.pt.e,.int .i64 d5.val.kind,.int .i64 d5.val.num,.string d5.val.name,.int .i64 d5.val.lv.kind,.int .i64 d5.val.lv.num,.slice P5.pv.A d5.val.lv.kids.length P5.pv.c,.slice P5.pv.B d5.val.ls.length P5.pv.d,.slice P5.pv.K d5.val.kids.length P5.pv.e,.int .i64 d5.params,.slice P5.C d5.cs.length P5.e] (0,0) _ rfl HX7.out Try.underlying30 rfl (by kernel_rfl)) rfl ?_
  exact ⟨P5,d5,_,0,rfl,close_mem eDc (p:=P5) HL6.out HZ1.out HC7.out,close_below HB1.out HZ1.out HC6.out HC7.out,took_of2 (b:=dcB) (R:=dcR xs) (fun t r hk=>dc_put HS.out.bytes hk) dcB_pos1 HS.out.reads.1 HS.out.len HSEM.out HV5.out⟩
end Go.Proofs.Ytcgkeolgflphiaa

namespace Go.Proofs.Ytcgkeolgflphiaa
open Go.RowKit Go.Proofs.YtcgkeolgflphiaaW.PrintWords Go.RegionInvYtcgkeolgflphiaa

theorem infoDcD:(Try.prog.info? 30).map (fun i=>(i.zero,i.size,i.bytes))=some (some (.agg #[.int .i64 0,.string ⟨#[]⟩,.int .i64 0,.int .i64 0,.int .i64 0,.string ⟨#[]⟩,.int .i64 0,.int .i64 0,.slice none 0 0,.slice none 0 0,.slice none 0 0,.int .i64 0,.int .i64 0,.string ⟨#[]⟩,.int .i64 0,.int .i64 0,.slice none 0 0,.slice none 0 0,.slice none 0 0,.int .i64 0,.slice none 0 0]),21,304):=by kernel_rfl
theorem notNil_takeDc (W:World):(binOp .eql 70 (.func (.func 43) #[] #[]) .nilFunc).run Try.prog W=.ok (.bool false) W:=by kernel_rfl
set_option maxRecDepth 100000 in
set_option maxHeartbeats 8000000 in
theorem takeDc_calls (A:Option Addr) (n c:Nat) (xs:List Int) (most:Int) (w:World) (h:Bs w w.heap.size A n c xs) (hm0:0≤most) (hm1:most≤16)  :
  Calls Try.prog 49 #[.slice A n c,.int .i64 most,.func (.func 43) #[] #[]] w (TakeLP eDc (listR most dcR xs) xs w):=by
 have HS:=Ak h
 have hnil:=notNil_takeDc
 have hlen:=h.len
 have hxn:=h.reads.1
 go_enter Try.func49,Try.ntmps49
 rcases takeN_cases h.bytes with hT | hT | ⟨m,k,hT,hm,hk1,hk2⟩
 ·have HE:=Ak (listR_short (most:=most) (f:=dcR) hT (by decide))
  have HT:=Ak hT
  clear hT h hxn
  go_wp2_with (go_at_call 75;go_must (refine (take_calls _ _ _ xs _ HS.out.reads HS.out.bytes hlen).mono ?_;rintro e w' ⟨rfl,hw⟩;obtain rfl:w=w':=hw.symm;rw [HT.out]))
  go_ret3
  exact takeLP_err HE.out (by decide) (Below.refl _ _)
 ·have HE:=Ak (listR_short (most:=most) (f:=dcR) hT (by decide))
  have HT:=Ak hT
  clear hT h hxn
  go_wp2_with (go_at_call 75;go_must (refine (take_calls _ _ _ xs _ HS.out.reads HS.out.bytes hlen).mono ?_;rintro e w' ⟨rfl,hw⟩;obtain rfl:w=w':=hw.symm;rw [HT.out]))
  go_ret3
  exact takeLP_err HE.out (by decide) (Below.refl _ _)
 ·have HT:=Ak hT
  by_cases hlong:most<m
  ·have HE:=Ak (listR_many (f:=dcR) hT hlong)
   clear hT h hxn
   go_wp2_with (go_at_call 75;go_must (refine (take_calls _ _ _ xs _ HS.out.reads HS.out.bytes hlen).mono ?_;rintro e w' ⟨rfl,hw⟩;obtain rfl:w=w':=hw.symm;rw [HT.out]))
   go_ret3
   exact takeLP_err HE.out (by decide) (Below.refl _ _)
  ·have h1:(m:Int)≤most:=by omega
   have HE:=Ak (listR_ok (f:=dcR) hT hlong)
   have hk3:k≤n:=by omega
   have HXN:=Ak hxn
   clear hT h hlong hxn
   go_wp2_with (go_at_call 75;go_must (refine (take_calls _ _ _ xs _ HS.out.reads HS.out.bytes hlen).mono ?_;rintro e w' ⟨rfl,hw⟩;obtain rfl:w=w':=hw.symm;rw [HT.out]))
   go_loopw [9,10,12] (fun u p v wr=>∃ (r at_:Nat) (acc:List Dc),u=.int .u64 r∧p=.int .i64 at_∧r+acc.length≤16∧1≤at_∧at_≤n∧Aside0 (listR most dcR xs=moreR acc (manyR dcR r (xs.drop at_)))∧Aside0 (RowG eDc wr w.heap.size v acc)∧Aside0 (Below w.heap.size w wr)) (fun u _ _ _=>(intOf u).toNat)
   case atStart=>exact ⟨m,k,[],rfl,rfl,by simp;omega,hk1,hk3,HE,⟨RowG.nil _ _ _⟩,⟨Below.refl _ _⟩⟩
   case round =>
    clear HE HT
    obtain ⟨r,at_,acc,rfl,rfl,hr16,hat1,hat,HE,HO,HB⟩:=hrel
    rcases r with _ | r
    ·have HE2:=Ak (show listR most dcR xs=.ok (acc,xs.drop at_) from HE.out.trans moreR_end)
     go_wp2
     go_ret3
     exact ⟨u12,acc,at_,0,rfl,HO.out,HB.out,by rw [HE2.out];exact ⟨rfl,rfl,at_,rfl,hat1,by have:=HXN.out;omega,rfl⟩⟩
    ·obtain ⟨A',hcut,hrd⟩:=cut_old (A:=A) (n:=n) (c:=c) at_ hat
     have HRD:=Ak (hrd wr wr.heap.size xs ((HS.out.chg (S:=fun k=>w.heap.size≤k) (Nat.le_refl _) (fun _ h=>h) (chg_of_base HB.out)).mono HB.out.size))
     have hr1:(((r+1:Nat):Int) == 0)=false:=by simp;omega
     clear hrd
     go_upto_region 12 with (first
      | (go_at_call 43;go_must (refine (take1_calls A' (n - at_) (c - at_) (xs.drop at_) _ HRD.out).mono ?_;rintro e w2 ⟨p,l5,cnt,er,rfl,hmem,hb,htk⟩;obtain ⟨p1,hp1⟩:∃ p1,p1=p:=⟨_,rfl⟩;subst hp1;have HMEM:=Ak hmem;have HB2:=Ak hb;have HTK:=Ak htk;clear hmem hb htk;simp only [dcV]))
      | (refine wpList_store_row rfl 30 _ _ rfl w2.heap.size #[.int .i64 l5.kind,.string l5.nm,.int .i64 l5.vars,.int .i64 l5.ty.kind,.int .i64 l5.ty.num,.string l5.ty.name,.int .i64 l5.ty.lv.kind,.int .i64 l5.ty.lv.num,.slice p1.pt.A l5.ty.lv.kids.length p1.pt.c,.slice p1.pt.B l5.ty.ls.length p1.pt.d,.slice p1.pt.K l5.ty.kids.length p1.pt.e,.int .i64 l5.val.kind,.int .i64 l5.val.num,.string l5.val.name,.int .i64 l5.val.lv.kind,.int .i64 l5.val.lv.num,.slice p1.pv.A l5.val.lv.kids.length p1.pv.c,.slice p1.pv.B l5.val.ls.length p1.pv.d,.slice p1.pv.K l5.val.kids.length p1.pv.e,.int .i64 l5.params,.slice p1.C l5.cs.length p1.e] rfl rfl 30  #[.int .i64 0,.string ⟨#[]⟩,.int .i64 0,.int .i64 0,.int .i64 0,.string ⟨#[]⟩,.int .i64 0,.int .i64 0,.slice none 0 0,.slice none 0 0,.slice none 0 0,.int .i64 0,.int .i64 0,.string ⟨#[]⟩,.int .i64 0,.int .i64 0,.slice none 0 0,.slice none 0 0,.slice none 0 0,.int .i64 0,.slice none 0 0] (blk_new _ _) (by kernel_rfl) rfl (all_one (l:=[.int .i64 l5.kind,.string l5.nm,.int .i64 l5.vars,.int .i64 l5.ty.kind,.int .i64 l5.ty.num,.string l5.ty.name,.int .i64 l5.ty.lv.kind,.int .i64 l5.ty.lv.num,.slice p1.pt.A l5.ty.lv.kids.length p1.pt.c,.slice p1.pt.B l5.ty.ls.length p1.pt.d,.slice p1.pt.K l5.ty.kids.length p1.pt.e,.int .i64 l5.val.kind,.int .i64 l5.val.num,.string l5.val.name,.int .i64 l5.val.lv.kind,.int .i64 l5.val.lv.num,.slice p1.pv.A l5.val.lv.kids.length p1.pv.c,.slice p1.pv.B l5.val.ls.length p1.pv.d,.slice p1.pv.K l5.val.kids.length p1.pv.e,.int .i64 l5.params,.slice p1.C l5.cs.length p1.e]) rfl) ?_))
     have hbx:((w2.alloc (.cells #[.int .i64 0,.string ⟨#[]⟩,.int .i64 0,.int .i64 0,.int .i64 0,.string ⟨#[]⟩,.int .i64 0,.int .i64 0,.slice none 0 0,.slice none 0 0,.slice none 0 0,.int .i64 0,.int .i64 0,.string ⟨#[]⟩,.int .i64 0,.int .i64 0,.slice none 0 0,.slice none 0 0,.slice none 0 0,.int .i64 0,.slice none 0 0] 30 (0,0))).setRow w2.heap.size #[.int .i64 l5.kind,.string l5.nm,.int .i64 l5.vars,.int .i64 l5.ty.kind,.int .i64 l5.ty.num,.string l5.ty.name,.int .i64 l5.ty.lv.kind,.int .i64 l5.ty.lv.num,.slice p1.pt.A l5.ty.lv.kids.length p1.pt.c,.slice p1.pt.B l5.ty.ls.length p1.pt.d,.slice p1.pt.K l5.ty.kids.length p1.pt.e,.int .i64 l5.val.kind,.int .i64 l5.val.num,.string l5.val.name,.int .i64 l5.val.lv.kind,.int .i64 l5.val.lv.num,.slice p1.pv.A l5.val.lv.kids.length p1.pv.c,.slice p1.pv.B l5.val.ls.length p1.pv.d,.slice p1.pv.K l5.val.kids.length p1.pv.e,.int .i64 l5.params,.slice p1.C l5.cs.length p1.e]).heap[w2.heap.size]?=some (.cells #[.int .i64 l5.kind,.string l5.nm,.int .i64 l5.vars,.int .i64 l5.ty.kind,.int .i64 l5.ty.num,.string l5.ty.name,.int .i64 l5.ty.lv.kind,.int .i64 l5.ty.lv.num,.slice p1.pt.A l5.ty.lv.kids.length p1.pt.c,.slice p1.pt.B l5.ty.ls.length p1.pt.d,.slice p1.pt.K l5.ty.kids.length p1.pt.e,.int .i64 l5.val.kind,.int .i64 l5.val.num,.string l5.val.name,.int .i64 l5.val.lv.kind,.int .i64 l5.val.lv.num,.slice p1.pv.A l5.val.lv.kids.length p1.pv.c,.slice p1.pv.B l5.val.ls.length p1.pv.d,.slice p1.pv.K l5.val.kids.length p1.pv.e,.int .i64 l5.params,.slice p1.C l5.cs.length p1.e] 30 (0,0))∧Below w2.heap.size w2 ((w2.alloc (.cells #[.int .i64 0,.string ⟨#[]⟩,.int .i64 0,.int .i64 0,.int .i64 0,.string ⟨#[]⟩,.int .i64 0,.int .i64 0,.slice none 0 0,.slice none 0 0,.slice none 0 0,.int .i64 0,.int .i64 0,.string ⟨#[]⟩,.int .i64 0,.int .i64 0,.slice none 0 0,.slice none 0 0,.slice none 0 0,.int .i64 0,.slice none 0 0] 30 (0,0))).setRow w2.heap.size #[.int .i64 l5.kind,.string l5.nm,.int .i64 l5.vars,.int .i64 l5.ty.kind,.int .i64 l5.ty.num,.string l5.ty.name,.int .i64 l5.ty.lv.kind,.int .i64 l5.ty.lv.num,.slice p1.pt.A l5.ty.lv.kids.length p1.pt.c,.slice p1.pt.B l5.ty.ls.length p1.pt.d,.slice p1.pt.K l5.ty.kids.length p1.pt.e,.int .i64 l5.val.kind,.int .i64 l5.val.num,.string l5.val.name,.int .i64 l5.val.lv.kind,.int .i64 l5.val.lv.num,.slice p1.pv.A l5.val.lv.kids.length p1.pv.c,.slice p1.pv.B l5.val.ls.length p1.pv.d,.slice p1.pv.K l5.val.kids.length p1.pv.e,.int .i64 l5.params,.slice p1.C l5.cs.length p1.e]):=dc_boxed w2 p1 l5
     have hb2:=below_then HB2.out HB2.out.size hbx.2
     have HY:=Ak hbx.1
     have HB3:=Ak (show Below w.heap.size w ((w2.alloc (.cells #[.int .i64 0,.string ⟨#[]⟩,.int .i64 0,.int .i64 0,.int .i64 0,.string ⟨#[]⟩,.int .i64 0,.int .i64 0,.slice none 0 0,.slice none 0 0,.slice none 0 0,.int .i64 0,.int .i64 0,.string ⟨#[]⟩,.int .i64 0,.int .i64 0,.slice none 0 0,.slice none 0 0,.slice none 0 0,.int .i64 0,.slice none 0 0] 30 (0,0))).setRow w2.heap.size #[.int .i64 l5.kind,.string l5.nm,.int .i64 l5.vars,.int .i64 l5.ty.kind,.int .i64 l5.ty.num,.string l5.ty.name,.int .i64 l5.ty.lv.kind,.int .i64 l5.ty.lv.num,.slice p1.pt.A l5.ty.lv.kids.length p1.pt.c,.slice p1.pt.B l5.ty.ls.length p1.pt.d,.slice p1.pt.K l5.ty.kids.length p1.pt.e,.int .i64 l5.val.kind,.int .i64 l5.val.num,.string l5.val.name,.int .i64 l5.val.lv.kind,.int .i64 l5.val.lv.num,.slice p1.pv.A l5.val.lv.kids.length p1.pv.c,.slice p1.pv.B l5.val.ls.length p1.pv.d,.slice p1.pv.K l5.val.kids.length p1.pv.e,.int .i64 l5.params,.slice p1.C l5.cs.length p1.e]) from below_then HB.out HB.out.size hb2)
     have HO3:=Ak (RowG.later HO.out hb2)
     have HM3:=Ak (eDc.beside HO.out HB.out.size (eDc.same (w':=(w2.alloc (.cells #[.int .i64 0,.string ⟨#[]⟩,.int .i64 0,.int .i64 0,.int .i64 0,.string ⟨#[]⟩,.int .i64 0,.int .i64 0,.slice none 0 0,.slice none 0 0,.slice none 0 0,.int .i64 0,.int .i64 0,.string ⟨#[]⟩,.int .i64 0,.int .i64 0,.slice none 0 0,.slice none 0 0,.slice none 0 0,.int .i64 0,.slice none 0 0] 30 (0,0))).setRow w2.heap.size #[.int .i64 l5.kind,.string l5.nm,.int .i64 l5.vars,.int .i64 l5.ty.kind,.int .i64 l5.ty.num,.string l5.ty.name,.int .i64 l5.ty.lv.kind,.int .i64 l5.ty.lv.num,.slice p1.pt.A l5.ty.lv.kids.length p1.pt.c,.slice p1.pt.B l5.ty.ls.length p1.pt.d,.slice p1.pt.K l5.ty.kids.length p1.pt.e,.int .i64 l5.val.kind,.int .i64 l5.val.num,.string l5.val.name,.int .i64 l5.val.lv.kind,.int .i64 l5.val.lv.num,.slice p1.pv.A l5.val.lv.kids.length p1.pv.c,.slice p1.pv.B l5.val.ls.length p1.pv.d,.slice p1.pv.K l5.val.kids.length p1.pv.e,.int .i64 l5.params,.slice p1.C l5.cs.length p1.e]) HMEM.out fun k hk hz=>hbx.2.block k hz))
     obtain ⟨gx,hgx⟩:∃ gx,gx=w2.heap.size:=⟨_,rfl⟩
     obtain ⟨W3,hW3⟩:∃ W3,W3=(w2.alloc (.cells #[.int .i64 0,.string ⟨#[]⟩,.int .i64 0,.int .i64 0,.int .i64 0,.string ⟨#[]⟩,.int .i64 0,.int .i64 0,.slice none 0 0,.slice none 0 0,.slice none 0 0,.int .i64 0,.int .i64 0,.string ⟨#[]⟩,.int .i64 0,.int .i64 0,.slice none 0 0,.slice none 0 0,.slice none 0 0,.int .i64 0,.slice none 0 0] 30 (0,0))).setRow w2.heap.size #[.int .i64 l5.kind,.string l5.nm,.int .i64 l5.vars,.int .i64 l5.ty.kind,.int .i64 l5.ty.num,.string l5.ty.name,.int .i64 l5.ty.lv.kind,.int .i64 l5.ty.lv.num,.slice p1.pt.A l5.ty.lv.kids.length p1.pt.c,.slice p1.pt.B l5.ty.ls.length p1.pt.d,.slice p1.pt.K l5.ty.kids.length p1.pt.e,.int .i64 l5.val.kind,.int .i64 l5.val.num,.string l5.val.name,.int .i64 l5.val.lv.kind,.int .i64 l5.val.lv.num,.slice p1.pv.A l5.val.lv.kids.length p1.pv.c,.slice p1.pv.B l5.val.ls.length p1.pv.d,.slice p1.pv.K l5.val.kids.length p1.pv.e,.int .i64 l5.params,.slice p1.C l5.cs.length p1.e]:=⟨_,rfl⟩
     rw [← hW3] at HY HB3 HO3 HM3 ⊢
     rw [← hgx] at HY ⊢
     clear hbx hb2
     clear hgx hW3 HMEM HB2 HRD hcut
     skip
     cases hf1:dcR (xs.drop at_) with
     | error ee =>
      have htk:=HTK.out
      rw [hf1] at htk
      obtain ⟨rfl,hne⟩:=htk
      have hne':(er != 0)=true:=by simp [hne]
      have HK:=Ak (HE.out.trans (moreR_bad hf1))
      have HNE:=Ak hne
      clear hf1 hne HTK
      go_wp2
      go_ret3
      exact takeLP_err HK.out HNE.out HB3.out
     | ok y =>
      obtain ⟨x',r'⟩:=y
      have htk:=HTK.out
      rw [hf1] at htk
      obtain ⟨hxx,rfl,u,rfl,hu1,hu2,hrr⟩:=htk
      subst hxx
      have HK:=Ak (HE.out.trans (moreR_next hf1))
      have hu3:at_+u≤n:=by have:=HXN.out;rw [List.length_drop] at hu2;omega
      have HRR:=Ak (show r'=xs.drop (at_+u) by rw [hrr,List.drop_drop])
      obtain ⟨cs,q,hown,hcs⟩:=HO3.out
      have HOWN:=Ak hown
      have HCS:=Ak hcs
      clear hf1 HTK hown hcs hrr hu2
      go_wp2_with (first | (refine wpList_load_row rfl 30 _ rfl gx rfl 30 _ (0,0) _ HY.out Try.underlying30 rfl (by kernel_rfl) ?_) | (at_builtin;go_must (refine print_append_cells (w0:=W3) w.heap.size rfl (.tmp 65) (.tmp 67) 42 30 _ 21 304 rfl Try.underlying42 infoDcD rfl (by decide) (by decide) u12 acc.length cs [.int .i64 l5.kind,.string l5.nm,.int .i64 l5.vars,.int .i64 l5.ty.kind,.int .i64 l5.ty.num,.string l5.ty.name,.int .i64 l5.ty.lv.kind,.int .i64 l5.ty.lv.num,.slice p1.pt.A l5.ty.lv.kids.length p1.pt.c,.slice p1.pt.B l5.ty.ls.length p1.pt.d,.slice p1.pt.K l5.ty.kids.length p1.pt.e,.int .i64 l5.val.kind,.int .i64 l5.val.num,.string l5.val.name,.int .i64 l5.val.lv.kind,.int .i64 l5.val.lv.num,.slice p1.pv.A l5.val.lv.kids.length p1.pv.c,.slice p1.pv.B l5.val.ls.length p1.pv.d,.slice p1.pv.K l5.val.kids.length p1.pv.e,.int .i64 l5.params,.slice p1.C l5.cs.length p1.e] rfl rfl rfl (List.all_eq_true.1 rfl) HOWN.out (Below.refl _ _) HB3.out.size (by omega) ?_;intro v3 w3 ho hb hg hat;have HO4:=Ak (RowG.push (E:=eDc) HOWN.out HCS.out HM3.out ho hg hat);have HB4:=Ak (HB3.out.trans hb);clear ho hb hg hat)))
      go_roundw
      case rel=>exact ⟨r,at_+u,acc ++ [l5],by go_num,by go_num,by simp only [List.length_append,List.length_singleton];omega,by omega,hu3,⟨by rw [HK.out,HRR.out]⟩,HO4,HB4⟩
      case measure=>(simp [intOf];try omega)
end Go.Proofs.Ytcgkeolgflphiaa

namespace Go.Proofs.Ytcgkeolgflphiaa
open Go.RowKit Go.Proofs.YtcgkeolgflphiaaW.PrintWords Go.RegionInvYtcgkeolgflphiaa

def endR {α:Type}:Except Int (α × List Int)→Except Int α
 | .error e=>.error e
 | .ok (x,r)=>if r≠[] then .error 4 else .ok x
def EndP {α:Type} (x:α) (er:Int):Except Int α→Prop
 | .ok y=>x=y∧er=0
 | .error k=>er=k∧k≠0
theorem endR_form {α:Type} {x:α} {xs:List Int} {u:Nat} {R:Except Int (α × List Int)} (h:R=.ok (x,xs.drop u)) (hu:u<xs.length):endR R=.error 4:=by
 subst h
 simp only [endR]
 rw [if_pos]
 intro h
 have:=List.drop_eq_nil_iff.1 h
 omega
theorem endR_ok {α:Type} {x:α} {xs:List Int} {u:Nat} {R:Except Int (α × List Int)} (h:R=.ok (x,xs.drop u)) (hu:u=xs.length):endR R=.ok x:=by
 subst h
 simp only [endR]
 rw [if_neg]
 rw [hu,List.drop_length]
 exact fun h=>h rfl
set_option maxHeartbeats 4000000 in
theorem unb1_calls (A:Option Addr) (n c:Nat) (xs:List Int) (w:World) (h:Bs w w.heap.size A n c xs) :
  Calls Try.prog 48 #[.slice A n c] w (TakeLP eDc (listR 16 dcR xs) xs w):=by
 have HS:=Ak h
 clear h
 go_enter Try.func48,Try.ntmps48
 go_wp2_with (go_at_call 49;go_must (refine (takeDc_calls A n c xs 16 _ HS.out (by decide) (by decide)).mono ?_;rintro e w2 ⟨V,l,cnt,er,rfl,hrow,hb,htk⟩;have HROW:=Ak hrow;have HB:=Ak hb;have HTK:=Ak htk;clear hrow hb htk))
 go_ret3
 exact ⟨V,l,cnt,er,rfl,HROW.out,HB.out,HTK.out⟩
theorem notNil_unb (W:World):(binOp .eql 81 (.func (.func 48) #[] #[]) .nilFunc).run Try.prog W=.ok (.bool false) W:=by kernel_rfl
def WhL (w:World) (R:Except Int (List Dc)) (e:Ending) (w':World):Prop:=
 ∃ V l er,e=.returned (.tuple #[V,.int .i64 er])∧RowG eDc w' w.heap.size V l∧Below w.heap.size w w'∧EndP l er R
set_option maxHeartbeats 4000000 in
theorem wholeL_calls (A:Option Addr) (n c:Nat) (xs:List Int) (w:World) (h:Bs w w.heap.size A n c xs) :
  Calls Try.prog 47 #[.slice A n c,.func (.func 48) #[] #[]] w (WhL w (endR (listR 16 dcR xs))):=by
 have HS:=Ak h
 have hnil:=notNil_unb
 have HXN:=Ak h.reads.1
 clear h
 go_enter Try.func47,Try.ntmps47
 go_upto_region 5 with (go_at_call 48;go_must (refine (unb1_calls A n c xs _ HS.out).mono ?_;rintro e w2 ⟨V,l,cnt,er,rfl,hrow,hb,htk⟩;have HROW:=Ak hrow;have HB:=Ak hb;have HTK:=Ak htk;clear hrow hb htk))
 cases hR:listR 16 dcR xs with
 | error k =>
  have htk:=HTK.out
  rw [hR] at htk
  obtain ⟨rfl,rfl,rfl,rfl,hne⟩:=htk
  have hne':(er != 0)=true:=by simp [hne]
  have HNE:=Ak hne
  have HRE:=Ak hR
  clear hR hne HTK
  go_wp2
  go_ret2
  exact ⟨_,[],er,rfl,RowG.nil _ _ _,HB.out,by rw [HRE.out];exact ⟨rfl,HNE.out⟩⟩
 | ok y =>
  obtain ⟨l',r⟩:=y
  have htk:=HTK.out
  rw [hR] at htk
  obtain ⟨rfl,rfl,u,rfl,hu1,hu2,rfl⟩:=htk
  rw [HXN.out] at hu2
  by_cases hu:u=n
  ·have hu':((u:Int) != (n:Int))=false:=by simp [hu]
   have HRE:=Ak (endR_ok hR (by rw [HXN.out];exact hu))
   clear hR hu HTK
   go_wp2
   go_ret2
   exact ⟨V,l,0,rfl,HROW.out,HB.out,by rw [HRE.out];exact ⟨rfl,rfl⟩⟩
  ·have hu':((u:Int) != (n:Int))=true:=by simp;omega
   have HRE:=Ak (endR_form hR (by rw [HXN.out];omega))
   clear hR hu HTK
   go_wp2
   go_ret2
   exact ⟨_,[],4,rfl,RowG.nil _ _ _,HB.out,by rw [HRE.out];exact ⟨rfl,by decide⟩⟩
theorem notNil_take1 (W:World):(binOp .eql 70 (.func (.func 43) #[] #[]) .nilFunc).run Try.prog W=.ok (.bool false) W:=by kernel_rfl
def WhD (w:World) (R:Except Int Dc) (e:Ending) (w':World):Prop:=
 ∃ P d er,e=.returned (.tuple #[dcV P d,.int .i64 er])∧DcS w' (fun b=>w.heap.size≤b) P d∧Below w.heap.size w w'∧EndP d er R
set_option maxRecDepth 100000 in
set_option maxHeartbeats 8000000 in
theorem wholeD_calls (A:Option Addr) (n c:Nat) (xs:List Int) (w:World) (h:Bs w w.heap.size A n c xs) :
  Calls Try.prog 42 #[.slice A n c,.func (.func 43) #[] #[]] w (WhD w (endR (dcR xs))):=by
 have hb1:=below_alloc (below_alloc (Below.refl w.heap.size w) dzO) dzO
 have HX1:=Ak (blk_alloc (blk_new w dzO) dzO)
 have HY1:=Ak (show ((w.alloc dzO).alloc dzO).heap[w.heap.size+1]?=some dzO by have:=blk_new (w.alloc dzO) dzO;simpa using this)
 have HS:=Ak ((h.chg (S:=fun _=>False) (Nat.le_refl _) (fun _ h=>h.elim) (Chg.of_below hb1)).mono hb1.size)
 have HB1:=Ak hb1
 have HZ1:=Ak (show ((w.alloc dzO).alloc dzO).heap.size=w.heap.size+2 by simp)
 have hnil:=notNil_take1
 have HXN:=Ak h.reads.1
 clear h hb1
 go_enter Try.func42,Try.ntmps42
 go_upto_region 2 with (fail)
 obtain ⟨W1,hW1⟩:∃ W1,W1=(w.alloc dzO).alloc dzO:=⟨_,rfl⟩
 rw [← hW1] at HS HX1 HY1 HB1 HZ1 ⊢
 clear hW1
 go_upto_region 5 with (first
  | (go_at_call 43;go_must (refine (take1_calls A n c xs _ HS.out).mono ?_;rintro e w2 ⟨P,d,cnt,er,rfl,hmem,hb,htk⟩;have HX2:=Ak (blk_below HX1.out hb);have HY2:=Ak (blk_below HY1.out hb);have HMEM:=Ak hmem;have HB2:=Ak (below_then HB1.out HB1.out.size hb);have HTK:=Ak htk;have HZ2:=Ak hb.size;clear hmem hb htk;simp only [dcV]))
  | (refine wpList_store_row rfl 30 _ _ rfl (w2.heap.size) #[.int .i64 d.kind,.string d.nm,.int .i64 d.vars,.int .i64 d.ty.kind,.int .i64 d.ty.num,.string d.ty.name,.int .i64 d.ty.lv.kind,.int .i64 d.ty.lv.num,.slice P.pt.A d.ty.lv.kids.length P.pt.c,.slice P.pt.B d.ty.ls.length P.pt.d,.slice P.pt.K d.ty.kids.length P.pt.e,.int .i64 d.val.kind,.int .i64 d.val.num,.string d.val.name,.int .i64 d.val.lv.kind,.int .i64 d.val.lv.num,.slice P.pv.A d.val.lv.kids.length P.pv.c,.slice P.pv.B d.val.ls.length P.pv.d,.slice P.pv.K d.val.kids.length P.pv.e,.int .i64 d.params,.slice P.C d.cs.length P.e] rfl rfl 30 #[.int .i64 0,.string ⟨#[]⟩,.int .i64 0,.int .i64 0,.int .i64 0,.string ⟨#[]⟩,.int .i64 0,.int .i64 0,.slice none 0 0,.slice none 0 0,.slice none 0 0,.int .i64 0,.int .i64 0,.string ⟨#[]⟩,.int .i64 0,.int .i64 0,.slice none 0 0,.slice none 0 0,.slice none 0 0,.int .i64 0,.slice none 0 0] (blk_new _ _) (by kernel_rfl) rfl (all_one (l:=[.int .i64 d.kind,.string d.nm,.int .i64 d.vars,.int .i64 d.ty.kind,.int .i64 d.ty.num,.string d.ty.name,.int .i64 d.ty.lv.kind,.int .i64 d.ty.lv.num,.slice P.pt.A d.ty.lv.kids.length P.pt.c,.slice P.pt.B d.ty.ls.length P.pt.d,.slice P.pt.K d.ty.kids.length P.pt.e,.int .i64 d.val.kind,.int .i64 d.val.num,.string d.val.name,.int .i64 d.val.lv.kind,.int .i64 d.val.lv.num,.slice P.pv.A d.val.lv.kids.length P.pv.c,.slice P.pv.B d.val.ls.length P.pv.d,.slice P.pv.K d.val.kids.length P.pv.e,.int .i64 d.params,.slice P.C d.cs.length P.e]) rfl) ?_))
 have hbx:=dc_boxed w2 P d
 have HX3:=Ak (blk_below HX2.out hbx.2)
 have HY3:=Ak (blk_below HY2.out hbx.2)
 have HG3:=Ak hbx.1
 have HB3:=Ak (below_then HB2.out HB2.out.size hbx.2)
 have HM3:=Ak (HMEM.out.same fun k _ hk=>hbx.2.block k hk)
 obtain ⟨gx,hgx⟩:∃ gx,gx=w2.heap.size:=⟨_,rfl⟩
 obtain ⟨W3,hW3⟩:∃ W3,W3=(w2.alloc (.cells #[.int .i64 0,.string ⟨#[]⟩,.int .i64 0,.int .i64 0,.int .i64 0,.string ⟨#[]⟩,.int .i64 0,.int .i64 0,.slice none 0 0,.slice none 0 0,.slice none 0 0,.int .i64 0,.int .i64 0,.string ⟨#[]⟩,.int .i64 0,.int .i64 0,.slice none 0 0,.slice none 0 0,.slice none 0 0,.int .i64 0,.slice none 0 0] 30 (0,0))).setRow w2.heap.size #[.int .i64 d.kind,.string d.nm,.int .i64 d.vars,.int .i64 d.ty.kind,.int .i64 d.ty.num,.string d.ty.name,.int .i64 d.ty.lv.kind,.int .i64 d.ty.lv.num,.slice P.pt.A d.ty.lv.kids.length P.pt.c,.slice P.pt.B d.ty.ls.length P.pt.d,.slice P.pt.K d.ty.kids.length P.pt.e,.int .i64 d.val.kind,.int .i64 d.val.num,.string d.val.name,.int .i64 d.val.lv.kind,.int .i64 d.val.lv.num,.slice P.pv.A d.val.lv.kids.length P.pv.c,.slice P.pv.B d.val.ls.length P.pv.d,.slice P.pv.K d.val.kids.length P.pv.e,.int .i64 d.params,.slice P.C d.cs.length P.e]:=⟨_,rfl⟩
 replace HX3:Aside0 (W3.heap[w.heap.size]?=some dzO):=by rw [hW3];exact HX3
 replace HY3:Aside0 (W3.heap[w.heap.size+1]?=some dzO):=by rw [hW3];exact HY3
 replace HG3:Aside0 (W3.heap[w2.heap.size]?=some (dcO P d)):=by rw [hW3];exact HG3
 replace HB3:Aside0 (Below w.heap.size w W3):=by rw [hW3];exact HB3
 replace HM3:Aside0 (DcS W3 (fun b=>W1.heap.size≤b) P d):=by rw [hW3];exact HM3
 rw [← hW3]
 rw [← hgx] at HG3 ⊢
 clear hgx hW3 hbx
 cases hR:dcR xs with
 | error k =>
  have htk:=HTK.out
  rw [hR] at htk
  obtain ⟨rfl,hne⟩:=htk
  have hne':(er != 0)=true:=by simp [hne]
  have HNE:=Ak hne
  have HRE:=Ak hR
  clear hR hne HTK
  go_wp2_with (first | (refine wpList_load_row rfl 30 _ rfl (w.heap.size+1) rfl 30 _ (0,0) _ HY3.out Try.underlying30 rfl (by kernel_rfl) ?_) | (refine wpList_store_row rfl 30 _ _ rfl (w.heap.size) #[.int .i64 0,.string ⟨#[]⟩,.int .i64 0,.int .i64 0,.int .i64 0,.string ⟨#[]⟩,.int .i64 0,.int .i64 0,.slice none 0 0,.slice none 0 0,.slice none 0 0,.int .i64 0,.int .i64 0,.string ⟨#[]⟩,.int .i64 0,.int .i64 0,.slice none 0 0,.slice none 0 0,.slice none 0 0,.int .i64 0,.slice none 0 0] rfl rfl 30 #[.int .i64 0,.string ⟨#[]⟩,.int .i64 0,.int .i64 0,.int .i64 0,.string ⟨#[]⟩,.int .i64 0,.int .i64 0,.slice none 0 0,.slice none 0 0,.slice none 0 0,.int .i64 0,.int .i64 0,.string ⟨#[]⟩,.int .i64 0,.int .i64 0,.slice none 0 0,.slice none 0 0,.slice none 0 0,.int .i64 0,.slice none 0 0] HX3.out (by kernel_rfl) rfl dz_one ?_))
  refine bodyPost_ret (results_ct rfl _ _ w.heap.size 30 #[.int .i64 0,.string ⟨#[]⟩,.int .i64 0,.int .i64 0,.int .i64 0,.string ⟨#[]⟩,.int .i64 0,.int .i64 0,.slice none 0 0,.slice none 0 0,.slice none 0 0,.int .i64 0,.int .i64 0,.string ⟨#[]⟩,.int .i64 0,.int .i64 0,.slice none 0 0,.slice none 0 0,.slice none 0 0,.int .i64 0,.slice none 0 0] (0,0) _ rfl (setRow_heap W3 w.heap.size _ _ _ _ HX3.out) Try.underlying30 rfl (by kernel_rfl)) rfl ?_
  exact ⟨pl00,dz,er,rfl,dz_in _ _,Chg.trans_below HB3.out (chg_setRow _ _ _) (fun k e=>by omega) HB3.out.size,by rw [HRE.out];exact ⟨rfl,HNE.out⟩⟩
 | ok y =>
  obtain ⟨d',r⟩:=y
  have htk:=HTK.out
  rw [hR] at htk
  obtain ⟨rfl,rfl,u,rfl,hu1,hu2,rfl⟩:=htk
  rw [HXN.out] at hu2
  by_cases hu:u=n
  ·have hu':((u:Int) != (n:Int))=false:=by simp [hu]
   have HRE:=Ak (endR_ok hR (by rw [HXN.out];exact hu))
   clear hR hu HTK
   go_wp2_with (first | (refine wpList_load_row rfl 30 _ rfl (gx) rfl 30 _ (0,0) _ HG3.out Try.underlying30 rfl (by kernel_rfl) ?_) | (refine wpList_store_row rfl 30 _ _ rfl (w.heap.size) #[.int .i64 d.kind,.string d.nm,.int .i64 d.vars,.int .i64 d.ty.kind,.int .i64 d.ty.num,.string d.ty.name,.int .i64 d.ty.lv.kind,.int .i64 d.ty.lv.num,.slice P.pt.A d.ty.lv.kids.length P.pt.c,.slice P.pt.B d.ty.ls.length P.pt.d,.slice P.pt.K d.ty.kids.length P.pt.e,.int .i64 d.val.kind,.int .i64 d.val.num,.string d.val.name,.int .i64 d.val.lv.kind,.int .i64 d.val.lv.num,.slice P.pv.A d.val.lv.kids.length P.pv.c,.slice P.pv.B d.val.ls.length P.pv.d,.slice P.pv.K d.val.kids.length P.pv.e,.int .i64 d.params,.slice P.C d.cs.length P.e] rfl rfl 30 #[.int .i64 0,.string ⟨#[]⟩,.int .i64 0,.int .i64 0,.int .i64 0,.string ⟨#[]⟩,.int .i64 0,.int .i64 0,.slice none 0 0,.slice none 0 0,.slice none 0 0,.int .i64 0,.int .i64 0,.string ⟨#[]⟩,.int .i64 0,.int .i64 0,.slice none 0 0,.slice none 0 0,.slice none 0 0,.int .i64 0,.slice none 0 0] HX3.out (by kernel_rfl) rfl (dc_one P d) ?_))
   refine bodyPost_ret (results_ct rfl _ _ w.heap.size 30 #[.int .i64 d.kind,.string d.nm,.int .i64 d.vars,.int .i64 d.ty.kind,.int .i64 d.ty.num,.string d.ty.name,.int .i64 d.ty.lv.kind,.int .i64 d.ty.lv.num,.slice P.pt.A d.ty.lv.kids.length P.pt.c,.slice P.pt.B d.ty.ls.length P.pt.d,.slice P.pt.K d.ty.kids.length P.pt.e,.int .i64 d.val.kind,.int .i64 d.val.num,.string d.val.name,.int .i64 d.val.lv.kind,.int .i64 d.val.lv.num,.slice P.pv.A d.val.lv.kids.length P.pv.c,.slice P.pv.B d.val.ls.length P.pv.d,.slice P.pv.K d.val.kids.length P.pv.e,.int .i64 d.params,.slice P.C d.cs.length P.e] (0,0) _ rfl (setRow_heap W3 w.heap.size _ _ _ _ HX3.out) Try.underlying30 rfl (by kernel_rfl)) rfl ?_
   have hz1:=HZ1.out
   exact ⟨P,d,0,rfl,(HM3.out.same fun k hk hz=>setRow_other W3 w.heap.size k _ (by omega)).mono fun k hk _=>by omega,Chg.trans_below HB3.out (chg_setRow _ _ _) (fun k e=>by omega) HB3.out.size,by rw [HRE.out];exact ⟨rfl,rfl⟩⟩
  ·have hu':((u:Int) != (n:Int))=true:=by simp;omega
   have HRE:=Ak (endR_form hR (by rw [HXN.out];omega))
   clear hR hu HTK
   go_wp2_with (first | (refine wpList_load_row rfl 30 _ rfl (w.heap.size+1) rfl 30 _ (0,0) _ HY3.out Try.underlying30 rfl (by kernel_rfl) ?_) | (refine wpList_store_row rfl 30 _ _ rfl (w.heap.size) #[.int .i64 0,.string ⟨#[]⟩,.int .i64 0,.int .i64 0,.int .i64 0,.string ⟨#[]⟩,.int .i64 0,.int .i64 0,.slice none 0 0,.slice none 0 0,.slice none 0 0,.int .i64 0,.int .i64 0,.string ⟨#[]⟩,.int .i64 0,.int .i64 0,.slice none 0 0,.slice none 0 0,.slice none 0 0,.int .i64 0,.slice none 0 0] rfl rfl 30 #[.int .i64 0,.string ⟨#[]⟩,.int .i64 0,.int .i64 0,.int .i64 0,.string ⟨#[]⟩,.int .i64 0,.int .i64 0,.slice none 0 0,.slice none 0 0,.slice none 0 0,.int .i64 0,.int .i64 0,.string ⟨#[]⟩,.int .i64 0,.int .i64 0,.slice none 0 0,.slice none 0 0,.slice none 0 0,.int .i64 0,.slice none 0 0] HX3.out (by kernel_rfl) rfl dz_one ?_))
   refine bodyPost_ret (results_ct rfl _ _ w.heap.size 30 #[.int .i64 0,.string ⟨#[]⟩,.int .i64 0,.int .i64 0,.int .i64 0,.string ⟨#[]⟩,.int .i64 0,.int .i64 0,.slice none 0 0,.slice none 0 0,.slice none 0 0,.int .i64 0,.int .i64 0,.string ⟨#[]⟩,.int .i64 0,.int .i64 0,.slice none 0 0,.slice none 0 0,.slice none 0 0,.int .i64 0,.slice none 0 0] (0,0) _ rfl (setRow_heap W3 w.heap.size _ _ _ _ HX3.out) Try.underlying30 rfl (by kernel_rfl)) rfl ?_
   exact ⟨pl00,dz,4,rfl,dz_in _ _,Chg.trans_below HB3.out (chg_setRow _ _ _) (fun k e=>by omega) HB3.out.size,by rw [HRE.out];exact ⟨rfl,by decide⟩⟩
def EndZ (d:Dc) (er:Int):Except Int Dc→Prop
 | .ok y=>d=y∧er=0
 | .error k=>er=k∧k≠0∧d=dz
def DecP (w:World) (R:Except Int Dc) (e:Ending) (w':World):Prop:=
 ∃ P d er,e=.returned (.tuple #[dcV P d,.int .i64 er])∧DcS w' (fun b=>w.heap.size≤b) P d∧Below w.heap.size w w'∧EndZ d er R
theorem decR_end (xs:List Int):decR xs=match endR (dcR xs) with
  | .error e=>.error e
  | .ok d=>if mayD d≠0 then .error (mayD d) else .ok d:=by
 unfold decR
 cases dcR xs with
 | error e=>rfl
 | ok y =>
  obtain ⟨d,r⟩:=y
  simp only [endR]
  by_cases h:r=[]
  ·simp only [h,ne_eq,not_true_eq_false,if_false]
  ·simp only [ne_eq,h,not_false_eq_true,if_true]
set_option maxRecDepth 100000 in
set_option maxHeartbeats 8000000 in
theorem decode_calls (A:Option Addr) (n c:Nat) (xs:List Int) (w:World) (h:Bs w w.heap.size A n c xs) :
  Calls Try.prog 21 #[.slice A n c] w (DecP w (decR xs)):=by
 have hb1:=below_alloc (Below.refl w.heap.size w) dzO
 have HX1:=Ak (blk_new w dzO)
 have HS:=Ak ((h.chg (S:=fun _=>False) (Nat.le_refl _) (fun _ h=>h.elim) (Chg.of_below hb1)).mono hb1.size)
 have HB1:=Ak hb1
 have HZ1:=Ak (show (w.alloc dzO).heap.size=w.heap.size+1 by simp)
 clear h hb1
 go_enter Try.func21,Try.ntmps21
 go_upto_region 1 with (fail)
 obtain ⟨W1,hW1⟩:∃ W1,W1=w.alloc dzO:=⟨_,rfl⟩
 rw [← hW1] at HS HX1 HB1 HZ1 ⊢
 clear hW1
 go_upto_region 2 with (first
  | (go_at_call 42;go_must (refine (wholeD_calls A n c xs _ HS.out).mono ?_;rintro e w2 ⟨P,d,er,rfl,hmem,hb,htk⟩;have HX2:=Ak (blk_below HX1.out hb);have HMEM:=Ak hmem;have HB2:=Ak (below_then HB1.out HB1.out.size hb);have HTK:=Ak htk;clear hmem hb htk;simp only [dcV]))
  | (refine wpList_store_row rfl 30 _ _ rfl (w2.heap.size) #[.int .i64 d.kind,.string d.nm,.int .i64 d.vars,.int .i64 d.ty.kind,.int .i64 d.ty.num,.string d.ty.name,.int .i64 d.ty.lv.kind,.int .i64 d.ty.lv.num,.slice P.pt.A d.ty.lv.kids.length P.pt.c,.slice P.pt.B d.ty.ls.length P.pt.d,.slice P.pt.K d.ty.kids.length P.pt.e,.int .i64 d.val.kind,.int .i64 d.val.num,.string d.val.name,.int .i64 d.val.lv.kind,.int .i64 d.val.lv.num,.slice P.pv.A d.val.lv.kids.length P.pv.c,.slice P.pv.B d.val.ls.length P.pv.d,.slice P.pv.K d.val.kids.length P.pv.e,.int .i64 d.params,.slice P.C d.cs.length P.e] rfl rfl 30 #[.int .i64 0,.string ⟨#[]⟩,.int .i64 0,.int .i64 0,.int .i64 0,.string ⟨#[]⟩,.int .i64 0,.int .i64 0,.slice none 0 0,.slice none 0 0,.slice none 0 0,.int .i64 0,.int .i64 0,.string ⟨#[]⟩,.int .i64 0,.int .i64 0,.slice none 0 0,.slice none 0 0,.slice none 0 0,.int .i64 0,.slice none 0 0] (blk_new _ _) (by kernel_rfl) rfl (all_one (l:=[.int .i64 d.kind,.string d.nm,.int .i64 d.vars,.int .i64 d.ty.kind,.int .i64 d.ty.num,.string d.ty.name,.int .i64 d.ty.lv.kind,.int .i64 d.ty.lv.num,.slice P.pt.A d.ty.lv.kids.length P.pt.c,.slice P.pt.B d.ty.ls.length P.pt.d,.slice P.pt.K d.ty.kids.length P.pt.e,.int .i64 d.val.kind,.int .i64 d.val.num,.string d.val.name,.int .i64 d.val.lv.kind,.int .i64 d.val.lv.num,.slice P.pv.A d.val.lv.kids.length P.pv.c,.slice P.pv.B d.val.ls.length P.pv.d,.slice P.pv.K d.val.kids.length P.pv.e,.int .i64 d.params,.slice P.C d.cs.length P.e]) rfl) ?_))
 have hbx:=dc_boxed w2 P d
 have HX3:=Ak (blk_below HX2.out hbx.2)
 have HG3:=Ak hbx.1
 have HB3:=Ak (below_then HB2.out HB2.out.size hbx.2)
 have HM3:=Ak (HMEM.out.same fun k _ hk=>hbx.2.block k hk)
 obtain ⟨gx,hgx⟩:∃ gx,gx=w2.heap.size:=⟨_,rfl⟩
 obtain ⟨W3,hW3⟩:∃ W3,W3=(w2.alloc (.cells #[.int .i64 0,.string ⟨#[]⟩,.int .i64 0,.int .i64 0,.int .i64 0,.string ⟨#[]⟩,.int .i64 0,.int .i64 0,.slice none 0 0,.slice none 0 0,.slice none 0 0,.int .i64 0,.int .i64 0,.string ⟨#[]⟩,.int .i64 0,.int .i64 0,.slice none 0 0,.slice none 0 0,.slice none 0 0,.int .i64 0,.slice none 0 0] 30 (0,0))).setRow w2.heap.size #[.int .i64 d.kind,.string d.nm,.int .i64 d.vars,.int .i64 d.ty.kind,.int .i64 d.ty.num,.string d.ty.name,.int .i64 d.ty.lv.kind,.int .i64 d.ty.lv.num,.slice P.pt.A d.ty.lv.kids.length P.pt.c,.slice P.pt.B d.ty.ls.length P.pt.d,.slice P.pt.K d.ty.kids.length P.pt.e,.int .i64 d.val.kind,.int .i64 d.val.num,.string d.val.name,.int .i64 d.val.lv.kind,.int .i64 d.val.lv.num,.slice P.pv.A d.val.lv.kids.length P.pv.c,.slice P.pv.B d.val.ls.length P.pv.d,.slice P.pv.K d.val.kids.length P.pv.e,.int .i64 d.params,.slice P.C d.cs.length P.e]:=⟨_,rfl⟩
 replace HX3:Aside0 (W3.heap[w.heap.size]?=some dzO):=by rw [hW3];exact HX3
 replace HG3:Aside0 (W3.heap[w2.heap.size]?=some (dcO P d)):=by rw [hW3];exact HG3
 replace HB3:Aside0 (Below w.heap.size w W3):=by rw [hW3];exact HB3
 replace HM3:Aside0 (DcS W3 (fun b=>W1.heap.size≤b) P d):=by rw [hW3];exact HM3
 rw [← hW3]
 rw [← hgx] at HG3 ⊢
 clear hgx hW3 hbx
 have HE:=Ak (decR_end xs)
 cases hR:endR (dcR xs) with
 | error k =>
  have htk:=HTK.out
  rw [hR] at htk
  obtain ⟨rfl,hne⟩:=htk
  have hne':(er != 0)=true:=by simp [hne]
  have hne2:(er == 0)=false:=by simp [hne]
  have HNE:=Ak hne
  have HRE:=Ak (show decR xs=.error er by rw [HE.out,hR])
  clear hR hne HTK
  go_wp2_with (refine wpList_store_row rfl 30 _ _ rfl (w.heap.size) #[.int .i64 0,.string ⟨#[]⟩,.int .i64 0,.int .i64 0,.int .i64 0,.string ⟨#[]⟩,.int .i64 0,.int .i64 0,.slice none 0 0,.slice none 0 0,.slice none 0 0,.int .i64 0,.int .i64 0,.string ⟨#[]⟩,.int .i64 0,.int .i64 0,.slice none 0 0,.slice none 0 0,.slice none 0 0,.int .i64 0,.slice none 0 0] rfl rfl 30 #[.int .i64 0,.string ⟨#[]⟩,.int .i64 0,.int .i64 0,.int .i64 0,.string ⟨#[]⟩,.int .i64 0,.int .i64 0,.slice none 0 0,.slice none 0 0,.slice none 0 0,.int .i64 0,.int .i64 0,.string ⟨#[]⟩,.int .i64 0,.int .i64 0,.slice none 0 0,.slice none 0 0,.slice none 0 0,.int .i64 0,.slice none 0 0] HX3.out (by kernel_rfl) rfl dz_one ?_)
  refine bodyPost_ret (results_ct rfl _ _ w.heap.size 30 #[.int .i64 0,.string ⟨#[]⟩,.int .i64 0,.int .i64 0,.int .i64 0,.string ⟨#[]⟩,.int .i64 0,.int .i64 0,.slice none 0 0,.slice none 0 0,.slice none 0 0,.int .i64 0,.int .i64 0,.string ⟨#[]⟩,.int .i64 0,.int .i64 0,.slice none 0 0,.slice none 0 0,.slice none 0 0,.int .i64 0,.slice none 0 0] (0,0) _ rfl (setRow_heap W3 w.heap.size _ _ _ _ HX3.out) Try.underlying30 rfl (by kernel_rfl)) rfl ?_
  exact ⟨pl00,dz,er,rfl,dz_in _ _,Chg.trans_below HB3.out (chg_setRow _ _ _) (fun k e=>by omega) HB3.out.size,by rw [HRE.out];exact ⟨rfl,HNE.out,rfl⟩⟩
 | ok d' =>
  have htk:=HTK.out
  rw [hR] at htk
  obtain ⟨rfl,rfl⟩:=htk
  have HRE:=Ak (show decR xs=if mayD d≠0 then .error (mayD d) else .ok d by rw [HE.out,hR])
  obtain ⟨em,hem⟩:∃ em,em=mayD d:=⟨_,rfl⟩
  rw [← hem] at HRE
  have HEM:=Ak hem
  clear hR HTK hem
  by_cases hm:em=0
  ·subst hm
   have HRF:=Ak (show decR xs=.ok d by rw [HRE.out,if_neg (fun h=>h rfl)])
   go_wp2_with (first
    | (refine wpList_load_row rfl 30 _ rfl (gx) rfl 30 _ (0,0) _ HG3.out Try.underlying30 rfl (by kernel_rfl) ?_)
    | (go_at_call 13;go_must (refine (mayd_calls d P _ HM3.out.all).mono ?_;rintro e w4 ⟨rfl,hb⟩;rw [← HEM.out];have HX4:=Ak (blk_below HX3.out hb);have HG4:=Ak (blk_below HG3.out hb);have HM4:=Ak (HM3.out.same fun k _ hk=>hb.block k hk);have HB4:=Ak (below_then HB3.out HB3.out.size hb);clear hb))
    | (refine wpList_load_row rfl 30 _ rfl (gx) rfl 30 _ (0,0) _ HG4.out Try.underlying30 rfl (by kernel_rfl) ?_)
    | (refine wpList_store_row rfl 30 _ _ rfl (w.heap.size) #[.int .i64 d.kind,.string d.nm,.int .i64 d.vars,.int .i64 d.ty.kind,.int .i64 d.ty.num,.string d.ty.name,.int .i64 d.ty.lv.kind,.int .i64 d.ty.lv.num,.slice P.pt.A d.ty.lv.kids.length P.pt.c,.slice P.pt.B d.ty.ls.length P.pt.d,.slice P.pt.K d.ty.kids.length P.pt.e,.int .i64 d.val.kind,.int .i64 d.val.num,.string d.val.name,.int .i64 d.val.lv.kind,.int .i64 d.val.lv.num,.slice P.pv.A d.val.lv.kids.length P.pv.c,.slice P.pv.B d.val.ls.length P.pv.d,.slice P.pv.K d.val.kids.length P.pv.e,.int .i64 d.params,.slice P.C d.cs.length P.e] rfl rfl 30 #[.int .i64 0,.string ⟨#[]⟩,.int .i64 0,.int .i64 0,.int .i64 0,.string ⟨#[]⟩,.int .i64 0,.int .i64 0,.slice none 0 0,.slice none 0 0,.slice none 0 0,.int .i64 0,.int .i64 0,.string ⟨#[]⟩,.int .i64 0,.int .i64 0,.slice none 0 0,.slice none 0 0,.slice none 0 0,.int .i64 0,.slice none 0 0] HX4.out (by kernel_rfl) rfl (dc_one P d) ?_))
   refine bodyPost_ret (results_ct rfl _ _ w.heap.size 30 #[.int .i64 d.kind,.string d.nm,.int .i64 d.vars,.int .i64 d.ty.kind,.int .i64 d.ty.num,.string d.ty.name,.int .i64 d.ty.lv.kind,.int .i64 d.ty.lv.num,.slice P.pt.A d.ty.lv.kids.length P.pt.c,.slice P.pt.B d.ty.ls.length P.pt.d,.slice P.pt.K d.ty.kids.length P.pt.e,.int .i64 d.val.kind,.int .i64 d.val.num,.string d.val.name,.int .i64 d.val.lv.kind,.int .i64 d.val.lv.num,.slice P.pv.A d.val.lv.kids.length P.pv.c,.slice P.pv.B d.val.ls.length P.pv.d,.slice P.pv.K d.val.kids.length P.pv.e,.int .i64 d.params,.slice P.C d.cs.length P.e] (0,0) _ rfl (setRow_heap w4 w.heap.size _ _ _ _ HX4.out) Try.underlying30 rfl (by kernel_rfl)) rfl ?_
   have hz1:=HZ1.out
   exact ⟨P,d,0,rfl,(HM4.out.same fun k hk hz=>setRow_other w4 w.heap.size k _ (by omega)).mono fun k hk _=>by omega,Chg.trans_below HB4.out (chg_setRow _ _ _) (fun k e=>by omega) HB4.out.size,by rw [HRF.out];exact ⟨rfl,rfl⟩⟩
  ·have HRF:=Ak (show decR xs=.error em by rw [HRE.out,if_pos hm])
   have hne':(em != 0)=true:=by simp [hm]
   have HNE:=Ak hm
   clear hm
   go_wp2_with (first
    | (refine wpList_load_row rfl 30 _ rfl (gx) rfl 30 _ (0,0) _ HG3.out Try.underlying30 rfl (by kernel_rfl) ?_)
    | (go_at_call 13;go_must (refine (mayd_calls d P _ HM3.out.all).mono ?_;rintro e w4 ⟨rfl,hb⟩;rw [← HEM.out];have HX4:=Ak (blk_below HX3.out hb);have HB4:=Ak (below_then HB3.out HB3.out.size hb);clear hb))
    | (refine wpList_store_row rfl 30 _ _ rfl (w.heap.size) #[.int .i64 0,.string ⟨#[]⟩,.int .i64 0,.int .i64 0,.int .i64 0,.string ⟨#[]⟩,.int .i64 0,.int .i64 0,.slice none 0 0,.slice none 0 0,.slice none 0 0,.int .i64 0,.int .i64 0,.string ⟨#[]⟩,.int .i64 0,.int .i64 0,.slice none 0 0,.slice none 0 0,.slice none 0 0,.int .i64 0,.slice none 0 0] rfl rfl 30 #[.int .i64 0,.string ⟨#[]⟩,.int .i64 0,.int .i64 0,.int .i64 0,.string ⟨#[]⟩,.int .i64 0,.int .i64 0,.slice none 0 0,.slice none 0 0,.slice none 0 0,.int .i64 0,.int .i64 0,.string ⟨#[]⟩,.int .i64 0,.int .i64 0,.slice none 0 0,.slice none 0 0,.slice none 0 0,.int .i64 0,.slice none 0 0] HX4.out (by kernel_rfl) rfl dz_one ?_))
   refine bodyPost_ret (results_ct rfl _ _ w.heap.size 30 #[.int .i64 0,.string ⟨#[]⟩,.int .i64 0,.int .i64 0,.int .i64 0,.string ⟨#[]⟩,.int .i64 0,.int .i64 0,.slice none 0 0,.slice none 0 0,.slice none 0 0,.int .i64 0,.int .i64 0,.string ⟨#[]⟩,.int .i64 0,.int .i64 0,.slice none 0 0,.slice none 0 0,.slice none 0 0,.int .i64 0,.slice none 0 0] (0,0) _ rfl (setRow_heap w4 w.heap.size _ _ _ _ HX4.out) Try.underlying30 rfl (by kernel_rfl)) rfl ?_
   exact ⟨pl00,dz,em,rfl,dz_in _ _,Chg.trans_below HB4.out (chg_setRow _ _ _) (fun k e=>by omega) HB4.out.size,by rw [HRF.out];exact ⟨rfl,HNE.out,rfl⟩⟩
end Go.Proofs.Ytcgkeolgflphiaa

namespace Go.Proofs.Ytcgkeolgflphiaa
open Go.RowKit Go.Proofs.YtcgkeolgflphiaaW.PrintWords Go.RegionInvYtcgkeolgflphiaa

def EndU (l:List Dc) (er:Int):Except Int (List Dc)→Prop
 | .ok y=>l=y∧er=0
 | .error k=>er=k∧k≠0∧l=[]
def UnP (w:World) (R:Except Int (List Dc)) (e:Ending) (w':World):Prop:=
 ∃ V l er,e=.returned (.tuple #[V,.int .i64 er])∧RowG eDc w' w.heap.size V l∧Below w.heap.size w w'∧EndU l er R
theorem unR_end (xs:List Int) (h:¬ 8192<xs.length):unR xs=match endR (listR 16 dcR xs) with
  | .error e=>.error e
  | .ok l=>if mayAll l≠0 then .error (mayAll l) else .ok l:=by
 unfold unR
 rw [if_neg h]
 cases listR 16 dcR xs with
 | error e=>rfl
 | ok y =>
  obtain ⟨d,r⟩:=y
  simp only [endR]
  by_cases h:r=[]
  ·simp only [h,ne_eq,not_true_eq_false,if_false]
  ·simp only [ne_eq,h,not_false_eq_true,if_true]
theorem rowDc_dcs {w:World} {lo:Nat} {V:Value} {xs:List Dc} (h:RowG eDc w lo V xs):∃ (L:Option Addr) (e:Nat) (q:Nat→DPl),V=.slice L xs.length e∧(xs.length≤e∧e≤9223372036854775807)∧DcsS w (fun b=>lo≤b) L q xs:=by
 obtain ⟨cs,q,ho,hk⟩:=h
 obtain ⟨L,e,rfl⟩:=own_slice ho
 refine ⟨L,e,q,rfl,⟨own_cap ho,own_max ho⟩,fun i c hc=>?_⟩
 have hi:i<xs.length:=by
  rcases Nat.lt_or_ge i xs.length with h | h
  ·exact h
  ·rw [List.getElem?_eq_none h] at hc;cases hc
 obtain ⟨g,cap,hv,hb,_⟩:=ho.form (by omega)
 have hv':=hv
 injection hv with hA
 refine ⟨⟨g,0,hA,hb,fun j v hjv=>?_⟩,DcS.mono (hk i c hc).2 fun b hb _=>hb.1⟩
 have:=ho.cells (g:=g) (by rw [hv'];rfl) _ _ ((hk i c hc).1 j v hjv)
 rwa [show (⟨g,0,none⟩:Addr).add (i * eDc.sz+j)=⟨g,0+(i * 21+j),none⟩ from add_flat g 0 _,← Nat.add_assoc] at this
set_option maxRecDepth 100000 in
set_option maxHeartbeats 8000000 in
theorem unbundle_calls (A:Option Addr) (n c:Nat) (xs:List Int) (w:World) (h:Bs w w.heap.size A n c xs) :
  Calls Try.prog 24 #[.slice A n c] w (UnP w (unR xs)):=by
 have HS:=Ak h
 have HXN:=Ak h.reads.1
 clear h
 go_enter Try.func24,Try.ntmps24
 by_cases hbig:8192<n
 ·have hb':(8192:Int)<n:=by omega
  have HRE:=Ak (show unR xs=.error 2 by unfold unR;rw [if_pos (by rw [HXN.out];exact hbig)])
  go_wp2
  go_ret2
  exact ⟨_,[],2,rfl,RowG.nil _ _ _,Below.refl _ _,by rw [HRE.out];exact ⟨rfl,by decide,rfl⟩⟩
 ·have hb':¬ (8192:Int)<n:=by omega
  have HE:=Ak (unR_end xs (by rw [HXN.out];exact hbig))
  clear hbig
  go_upto_region 4 with (go_at_call 47;go_must (refine (wholeL_calls A n c xs _ HS.out).mono ?_;rintro e w2 ⟨V,l,er,rfl,hrow,hb,htk⟩;have HROW:=Ak hrow;have HB:=Ak hb;have HTK:=Ak htk;clear hrow hb htk))
  cases hR:endR (listR 16 dcR xs) with
  | error k =>
   have htk:=HTK.out
   rw [hR] at htk
   obtain ⟨rfl,hne⟩:=htk
   have hne':(er != 0)=true:=by simp [hne]
   have HNE:=Ak hne
   have HRE:=Ak (show unR xs=.error er by rw [HE.out,hR])
   clear hR hne HTK
   go_wp2
   go_ret2
   exact ⟨_,[],er,rfl,RowG.nil _ _ _,HB.out,by rw [HRE.out];exact ⟨rfl,HNE.out,rfl⟩⟩
  | ok l' =>
   have htk:=HTK.out
   rw [hR] at htk
   obtain ⟨rfl,rfl⟩:=htk
   have HRE:=Ak (show unR xs=if mayAll l≠0 then .error (mayAll l) else .ok l by rw [HE.out,hR])
   obtain ⟨L,ec,q,rfl,hle,hds⟩:=rowDc_dcs HROW.out
   have HDS:=Ak hds
   obtain ⟨m,hm⟩:∃ m,m=l.length:=⟨_,rfl⟩
   rw [← hm] at hle ⊢
   have HM:=Ak hm
   have hm9:m≤9223372036854775807:=by omega
   clear hR HTK hds hm hle
   go_wp2
   go_loopw [22] (fun i wr=>∃ k:Nat,i=.int .i64 k∧k≤m∧Aside0 (mayAll (l.drop k)=mayAll l)∧Aside0 (Below w2.heap.size w2 wr)) (fun i _=>m - (intOf i).toNat)
   case atStart=>exact ⟨0,rfl,Nat.zero_le _,⟨rfl⟩,⟨Below.refl _ _⟩⟩
   case round =>
    obtain ⟨k,rfl,hk,HK,HBR⟩:=hrel
    by_cases hlt:k<m
    ·have hlt2:k<l.length:=by rw [← HM.out];exact hlt
     obtain ⟨c,hc⟩:∃ c,l[k]?=some c:=⟨_,List.getElem?_eq_getElem hlt2⟩
     obtain ⟨⟨bk,o,hA,hSb,hcells⟩,hty⟩:=(HDS.out.same (w':=wr) fun k _ hk=>HBR.out.block k hk) k c hc
     have HAA:=Ak hA
     have HRG:=Ak (show wr.rangeAt bk (o+k * 21) (dcC (q k) c) from hcells)
     have HTY:=Ak hty
     have HDR:=Ak (drop_dc hc)
     rw [hA]
     clear hA hcells hc hlt2 hty
     by_cases hmd:mayD c=0
     ·have HMV:=Ak hmd
      clear hmd
      go_upto_region 9 with (first
       | (refine wpList_load_mid rfl 30 _ rfl bk (o+k * 21) rfl [.int .i64 c.kind,.string c.nm,.int .i64 c.vars,.int .i64 c.ty.kind,.int .i64 c.ty.num,.string c.ty.name,.int .i64 c.ty.lv.kind,.int .i64 c.ty.lv.num,.slice (q k).pt.A c.ty.lv.kids.length (q k).pt.c,.slice (q k).pt.B c.ty.ls.length (q k).pt.d,.slice (q k).pt.K c.ty.kids.length (q k).pt.e,.int .i64 c.val.kind,.int .i64 c.val.num,.string c.val.name,.int .i64 c.val.lv.kind,.int .i64 c.val.lv.num,.slice (q k).pv.A c.val.lv.kids.length (q k).pv.c,.slice (q k).pv.B c.val.ls.length (q k).pv.d,.slice (q k).pv.K c.val.kids.length (q k).pv.e,.int .i64 c.params,.slice (q k).C c.cs.length (q k).e] _ HRG.out Try.underlying30 rfl (by kernel_rfl) ?_)
       | (refine wpList_store_row rfl 30 _ _ rfl wr.heap.size #[.int .i64 c.kind,.string c.nm,.int .i64 c.vars,.int .i64 c.ty.kind,.int .i64 c.ty.num,.string c.ty.name,.int .i64 c.ty.lv.kind,.int .i64 c.ty.lv.num,.slice (q k).pt.A c.ty.lv.kids.length (q k).pt.c,.slice (q k).pt.B c.ty.ls.length (q k).pt.d,.slice (q k).pt.K c.ty.kids.length (q k).pt.e,.int .i64 c.val.kind,.int .i64 c.val.num,.string c.val.name,.int .i64 c.val.lv.kind,.int .i64 c.val.lv.num,.slice (q k).pv.A c.val.lv.kids.length (q k).pv.c,.slice (q k).pv.B c.val.ls.length (q k).pv.d,.slice (q k).pv.K c.val.kids.length (q k).pv.e,.int .i64 c.params,.slice (q k).C c.cs.length (q k).e] rfl rfl 30 #[.int .i64 0,.string ⟨#[]⟩,.int .i64 0,.int .i64 0,.int .i64 0,.string ⟨#[]⟩,.int .i64 0,.int .i64 0,.slice none 0 0,.slice none 0 0,.slice none 0 0,.int .i64 0,.int .i64 0,.string ⟨#[]⟩,.int .i64 0,.int .i64 0,.slice none 0 0,.slice none 0 0,.slice none 0 0,.int .i64 0,.slice none 0 0] (blk_new _ _) (by kernel_rfl) rfl (all_one (l:=[.int .i64 c.kind,.string c.nm,.int .i64 c.vars,.int .i64 c.ty.kind,.int .i64 c.ty.num,.string c.ty.name,.int .i64 c.ty.lv.kind,.int .i64 c.ty.lv.num,.slice (q k).pt.A c.ty.lv.kids.length (q k).pt.c,.slice (q k).pt.B c.ty.ls.length (q k).pt.d,.slice (q k).pt.K c.ty.kids.length (q k).pt.e,.int .i64 c.val.kind,.int .i64 c.val.num,.string c.val.name,.int .i64 c.val.lv.kind,.int .i64 c.val.lv.num,.slice (q k).pv.A c.val.lv.kids.length (q k).pv.c,.slice (q k).pv.B c.val.ls.length (q k).pv.d,.slice (q k).pv.K c.val.kids.length (q k).pv.e,.int .i64 c.params,.slice (q k).C c.cs.length (q k).e]) rfl) ?_))
      obtain ⟨W5,hW5⟩:∃ W5,W5=(wr.alloc (.cells zdcA 30 (0,0))).setRow wr.heap.size (dcA (q k) c):=⟨_,rfl⟩
      have hs5:=dc_boxed wr (q k) c
      rw [← hW5] at hs5
      have HX5:=Ak hs5.1
      have HB5:=Ak hs5.2
      have HBW5:=Ak (show Below w2.heap.size w2 W5 from Below.trans HBR.out (hs5.2.mono HBR.out.size))
      unfold zdcA dcA at hW5
      rw [← hW5]
      clear hW5 hs5
      go_wp2_with (first
       | (refine wpList_load_row rfl 30 _ rfl wr.heap.size rfl 30 _ (0,0) _ HX5.out Try.underlying30 rfl (by kernel_rfl) ?_)
       | (go_at_call 13;go_must (refine (mayd_calls c (q k) W5 (DcS.all (HTY.out.same fun k _ hk=>HB5.out.block k hk))).mono ?_;rintro e w6 ⟨rfl,hb⟩;rw [HMV.out];have HB6:=Ak (show Below w2.heap.size w2 w6 from Below.trans HBW5.out (hb.mono HBW5.out.size));clear hb)))
      go_roundw
      case rel=>exact ⟨k+1,by go_num,by omega,⟨by rw [← HK.out,HDR.out,all_go HMV.out]⟩,HB6⟩
      case measure=>(simp [intOf];try omega)
     ·have HEE:=Ak (show mayAll l=mayD c by rw [← HK.out,HDR.out,all_no hmd])
      obtain ⟨e1,he1⟩:∃ e1,mayD c=e1:=⟨_,rfl⟩
      rw [he1] at hmd HEE
      have HMV:=Ak he1
      have HNE:=Ak hmd
      have hm':(e1 != 0)=true:=by simpa using hmd
      clear hmd he1
      go_upto_region 9 with (first
       | (refine wpList_load_mid rfl 30 _ rfl bk (o+k * 21) rfl [.int .i64 c.kind,.string c.nm,.int .i64 c.vars,.int .i64 c.ty.kind,.int .i64 c.ty.num,.string c.ty.name,.int .i64 c.ty.lv.kind,.int .i64 c.ty.lv.num,.slice (q k).pt.A c.ty.lv.kids.length (q k).pt.c,.slice (q k).pt.B c.ty.ls.length (q k).pt.d,.slice (q k).pt.K c.ty.kids.length (q k).pt.e,.int .i64 c.val.kind,.int .i64 c.val.num,.string c.val.name,.int .i64 c.val.lv.kind,.int .i64 c.val.lv.num,.slice (q k).pv.A c.val.lv.kids.length (q k).pv.c,.slice (q k).pv.B c.val.ls.length (q k).pv.d,.slice (q k).pv.K c.val.kids.length (q k).pv.e,.int .i64 c.params,.slice (q k).C c.cs.length (q k).e] _ HRG.out Try.underlying30 rfl (by kernel_rfl) ?_)
       | (refine wpList_store_row rfl 30 _ _ rfl wr.heap.size #[.int .i64 c.kind,.string c.nm,.int .i64 c.vars,.int .i64 c.ty.kind,.int .i64 c.ty.num,.string c.ty.name,.int .i64 c.ty.lv.kind,.int .i64 c.ty.lv.num,.slice (q k).pt.A c.ty.lv.kids.length (q k).pt.c,.slice (q k).pt.B c.ty.ls.length (q k).pt.d,.slice (q k).pt.K c.ty.kids.length (q k).pt.e,.int .i64 c.val.kind,.int .i64 c.val.num,.string c.val.name,.int .i64 c.val.lv.kind,.int .i64 c.val.lv.num,.slice (q k).pv.A c.val.lv.kids.length (q k).pv.c,.slice (q k).pv.B c.val.ls.length (q k).pv.d,.slice (q k).pv.K c.val.kids.length (q k).pv.e,.int .i64 c.params,.slice (q k).C c.cs.length (q k).e] rfl rfl 30 #[.int .i64 0,.string ⟨#[]⟩,.int .i64 0,.int .i64 0,.int .i64 0,.string ⟨#[]⟩,.int .i64 0,.int .i64 0,.slice none 0 0,.slice none 0 0,.slice none 0 0,.int .i64 0,.int .i64 0,.string ⟨#[]⟩,.int .i64 0,.int .i64 0,.slice none 0 0,.slice none 0 0,.slice none 0 0,.int .i64 0,.slice none 0 0] (blk_new _ _) (by kernel_rfl) rfl (all_one (l:=[.int .i64 c.kind,.string c.nm,.int .i64 c.vars,.int .i64 c.ty.kind,.int .i64 c.ty.num,.string c.ty.name,.int .i64 c.ty.lv.kind,.int .i64 c.ty.lv.num,.slice (q k).pt.A c.ty.lv.kids.length (q k).pt.c,.slice (q k).pt.B c.ty.ls.length (q k).pt.d,.slice (q k).pt.K c.ty.kids.length (q k).pt.e,.int .i64 c.val.kind,.int .i64 c.val.num,.string c.val.name,.int .i64 c.val.lv.kind,.int .i64 c.val.lv.num,.slice (q k).pv.A c.val.lv.kids.length (q k).pv.c,.slice (q k).pv.B c.val.ls.length (q k).pv.d,.slice (q k).pv.K c.val.kids.length (q k).pv.e,.int .i64 c.params,.slice (q k).C c.cs.length (q k).e]) rfl) ?_))
      obtain ⟨W5,hW5⟩:∃ W5,W5=(wr.alloc (.cells zdcA 30 (0,0))).setRow wr.heap.size (dcA (q k) c):=⟨_,rfl⟩
      have hs5:=dc_boxed wr (q k) c
      rw [← hW5] at hs5
      have HX5:=Ak hs5.1
      have HB5:=Ak hs5.2
      have HBW5:=Ak (show Below w2.heap.size w2 W5 from Below.trans HBR.out (hs5.2.mono HBR.out.size))
      unfold zdcA dcA at hW5
      rw [← hW5]
      clear hW5 hs5
      go_wp2_with (first
       | (refine wpList_load_row rfl 30 _ rfl wr.heap.size rfl 30 _ (0,0) _ HX5.out Try.underlying30 rfl (by kernel_rfl) ?_)
       | (go_at_call 13;go_must (refine (mayd_calls c (q k) W5 (DcS.all (HTY.out.same fun k _ hk=>HB5.out.block k hk))).mono ?_;rintro e w6 ⟨rfl,hb⟩;rw [HMV.out];have HB6:=Ak (show Below w2.heap.size w2 w6 from Below.trans HBW5.out (hb.mono HBW5.out.size));clear hb)))
      go_ret2
      exact ⟨_,[],e1,rfl,RowG.nil _ _ _,below_then HB.out HB.out.size HB6.out,by rw [HRE.out,if_pos (by rw [HEE.out];exact HNE.out),HEE.out];exact ⟨rfl,HNE.out,rfl⟩⟩
    ·obtain rfl:k=m:=by omega
     have hlt':decide ((k:Int)<k)=false:=by simp
     have HAL:=Ak (show mayAll l=0 by rw [← HK.out,List.drop_of_length_le (by rw [← HM.out];exact Nat.le_refl _)];rfl)
     go_wp2
     go_ret2
     exact ⟨_,l,0,rfl,by rw [HM.out];exact RowG.later HROW.out HBR.out,below_then HB.out HB.out.size HBR.out,by rw [HRE.out,if_neg (fun h=>h HAL.out)];exact ⟨rfl,rfl⟩⟩
end Go.Proofs.Ytcgkeolgflphiaa

namespace Go.Proofs.Ytcgkeolgflphiaa
open Go.RowKit Go.Proofs.YtcgkeolgflphiaaW.PrintWords Go.RegionInvYtcgkeolgflphiaa Go.RegionEYtcgkeolgflphiaa

abbrev Nf:=Int × List Int
def NfAt (w:World) (S:Nat→Prop) (A:Option Addr) (i:Nat) (f:Nf):Prop:=
 ∃ b o A' c',A=some ⟨b,o,none⟩∧S b∧w.cell? ⟨b,o+i * 2,none⟩=some (.int .i64 f.1)∧w.cell? ⟨b,o+i * 2+1,none⟩=some (.slice A' f.2.length c')∧f.2.length≤c'∧IntsS w S A' f.2.length f.2
def NfsS (w:World) (S:Nat→Prop) (A:Option Addr) (fs:List Nf):Prop:=∀ (i:Nat) (f:Nf),fs[i]?=some f→NfAt w S A i f
theorem NfAt.same {w w':World} {S:Nat→Prop} {A:Option Addr} {i:Nat} {f:Nf} (h:NfAt w S A i f) (hs:∀ k,S k→k<w.heap.size→w'.heap[k]?=w.heap[k]?):NfAt w' S A i f:=by
 obtain ⟨b,o,A',c',e,hb,h1,h2,h3,h4⟩:=h
 have hz:b<w.heap.size:=World.block_lt_of_cell? w _ h1
 have key:∀ j,w'.cell? ⟨b,j,none⟩=w.cell? ⟨b,j,none⟩:=fun j=>cell_same (hs _ hb hz)
 exact ⟨b,o,A',c',e,hb,(key _).trans h1,(key _).trans h2,h3,h4.same hs⟩
theorem NfAt.mono {w:World} {S S':Nat→Prop} {A:Option Addr} {i:Nat} {f:Nf} (h:NfAt w S A i f) (hs:∀ k,S k→k<w.heap.size→S' k):NfAt w S' A i f:=by
 obtain ⟨b,o,A',c',e,hb,h1,h2,h3,h4⟩:=h
 exact ⟨b,o,A',c',e,hs _ hb (World.block_lt_of_cell? w _ h1),h1,h2,h3,h4.mono hs⟩
theorem NfsS.same {w w':World} {S:Nat→Prop} {A:Option Addr} {fs:List Nf} (h:NfsS w S A fs) (hs:∀ k,S k→k<w.heap.size→w'.heap[k]?=w.heap[k]?):NfsS w' S A fs:=fun i f hf=>(h i f hf).same hs
theorem NfsS.mono {w:World} {S S':Nat→Prop} {A:Option Addr} {fs:List Nf} (h:NfsS w S A fs) (hs:∀ k,S k→k<w.heap.size→S' k):NfsS w S' A fs:=fun i f hf=>(h i f hf).mono hs
end Go.Proofs.Ytcgkeolgflphiaa

namespace Go.Proofs.Ytcgkeolgflphiaa
open Go.RowKit Go.Proofs.YtcgkeolgflphiaaW.PrintWords Go.RegionInvYtcgkeolgflphiaa Go.RegionEYtcgkeolgflphiaa

theorem IntsS.take {w:World} {S:Nat→Prop} {A:Option Addr} {n:Nat} {ks:List Int} (h:IntsS w S A n ks) {j:Nat} (hj:j≤n):IntsS w S A j (ks.take j):=by
 refine ⟨⟨by simp;have:=h.1.1;omega,by have:=h.1.2.1;omega,fun h0=>?_⟩,fun h0=>h.2 (by omega)⟩
 obtain ⟨ad,e,hc⟩:=h.1.2.2 (by omega)
 refine ⟨ad,e,fun i hi=>?_⟩
 rw [hc i (by omega)]
 simp [List.getD_eq_getElem?_getD,List.getElem?_take,hi]
end Go.Proofs.Ytcgkeolgflphiaa

namespace Go.Proofs.Ytcgkeolgflphiaa
open Go.RowKit Go.Proofs.YtcgkeolgflphiaaW.PrintWords Go.RegionInvYtcgkeolgflphiaa Go.RegionEYtcgkeolgflphiaa

set_option maxHeartbeats 2000000 in
theorem refSound_calls (A:Option Addr) (c:Nat) (l:Lv) (w:World) (hin:LvIn w w.heap.size A c l) :
  Calls Try.prog 27 #[lvV A c l] w fun e w'=>e=.returned (.bool (soundB l))∧Below w.heap.size w w':=by
 have HIN:=Ak hin
 clear hin
 unfold lvV
 go_enter Try.func27,Try.ntmps27
 have hnew:NumAt ((w.alloc (.cells #[.int .i64 l.kind,.int .i64 l.num,.slice A l.kids.length c] 24 (0,0))).alloc (.cells #[.int .i64 0] 3 (0,0))) (w.heap.size+1) 0:=by
  have:=blk_new (w.alloc (.cells #[.int .i64 l.kind,.int .i64 l.num,.slice A l.kids.length c] 24 (0,0))) (.cells #[.int .i64 0] 3 (0,0))
  simpa [NumAt] using this
 have HNEW:=Ak hnew
 clear hnew
 go_wp2_with (go_at_call 51;go_must (refine (ref_sound _ l (Nat.lt_succ_self _) A c 1 0 (w.heap.size+1) w.heap.size _ (LvIn.stay HIN.out (below_alloc (below_alloc (Below.refl _ _) _) _)) HNEW.out (Nat.le_succ _) (by decide) (by decide) (by decide) (by decide)).mono ?_;rintro e w1 ⟨rfl,-,hc⟩;have HB:=Ak (two_below hc);clear hc))
 go_ret
 exact ⟨rfl,HB.out⟩
end Go.Proofs.Ytcgkeolgflphiaa

namespace Go.Proofs.Ytcgkeolgflphiaa
open Go.RowKit Go.Proofs.YtcgkeolgflphiaaW.PrintWords Go.RegionInvYtcgkeolgflphiaa

theorem bs_arg {w:World} {A:Option Addr} {n c:Nat} {xs:List Int} (hr:ReadsInt w .u8 A n xs) (hc:n≤c) (hB:Bytes xs) (hl:n≤140737488355000):Bs w w.heap.size A n c xs:=
 ⟨hc,hr,fun i hi=>by
  obtain ⟨ad,e,hx⟩:=hr.at_ 0 (Int.le_refl 0) (by omega)
  have:=World.block_lt_of_cell? w _ hx
  have hbl:(ad.add (Int.toNat 0)).block=ad.block:=by unfold Addr.add;split <;> rfl
  exact ⟨ad,e,by omega⟩,hB,hl⟩
theorem sound_one:soundB (.mk 1 0 [])=true:=by kernel_rfl
set_option maxRecDepth 100000 in
set_option maxHeartbeats 8000000 in
theorem declUnique_calls (A:Option Addr) (n c:Nat) (xs:List Int) (w:World) (h:Bs w w.heap.size A n c xs) :
  Calls Try.prog 8 #[.slice A n c] w fun e w'=>e=.returned (.bool true)∧Below w.heap.size w w':=by
 have HS:=Ak h
 clear h
 go_enter Try.func8,Try.ntmps8
 go_upto_region 2 with (first
  | (go_at_call 21;go_must (refine (decode_calls A n c xs _ HS.out).mono ?_;rintro e w2 ⟨P,d,er,rfl,hmem,hb,htk⟩;have HMEM:=Ak hmem;have HB2:=Ak hb;have HTK:=Ak htk;clear hmem hb htk;simp only [dcV]))
  | (refine wpList_store_row rfl 30 _ _ rfl (w2.heap.size) #[.int .i64 d.kind,.string d.nm,.int .i64 d.vars,.int .i64 d.ty.kind,.int .i64 d.ty.num,.string d.ty.name,.int .i64 d.ty.lv.kind,.int .i64 d.ty.lv.num,.slice P.pt.A d.ty.lv.kids.length P.pt.c,.slice P.pt.B d.ty.ls.length P.pt.d,.slice P.pt.K d.ty.kids.length P.pt.e,.int .i64 d.val.kind,.int .i64 d.val.num,.string d.val.name,.int .i64 d.val.lv.kind,.int .i64 d.val.lv.num,.slice P.pv.A d.val.lv.kids.length P.pv.c,.slice P.pv.B d.val.ls.length P.pv.d,.slice P.pv.K d.val.kids.length P.pv.e,.int .i64 d.params,.slice P.C d.cs.length P.e] rfl rfl 30 #[.int .i64 0,.string ⟨#[]⟩,.int .i64 0,.int .i64 0,.int .i64 0,.string ⟨#[]⟩,.int .i64 0,.int .i64 0,.slice none 0 0,.slice none 0 0,.slice none 0 0,.int .i64 0,.int .i64 0,.string ⟨#[]⟩,.int .i64 0,.int .i64 0,.slice none 0 0,.slice none 0 0,.slice none 0 0,.int .i64 0,.slice none 0 0] (blk_new _ _) (by kernel_rfl) rfl (all_one (l:=[.int .i64 d.kind,.string d.nm,.int .i64 d.vars,.int .i64 d.ty.kind,.int .i64 d.ty.num,.string d.ty.name,.int .i64 d.ty.lv.kind,.int .i64 d.ty.lv.num,.slice P.pt.A d.ty.lv.kids.length P.pt.c,.slice P.pt.B d.ty.ls.length P.pt.d,.slice P.pt.K d.ty.kids.length P.pt.e,.int .i64 d.val.kind,.int .i64 d.val.num,.string d.val.name,.int .i64 d.val.lv.kind,.int .i64 d.val.lv.num,.slice P.pv.A d.val.lv.kids.length P.pv.c,.slice P.pv.B d.val.ls.length P.pv.d,.slice P.pv.K d.val.kids.length P.pv.e,.int .i64 d.params,.slice P.C d.cs.length P.e]) rfl) ?_))
 have hbx:=dc_boxed w2 P d
 have HG3:=Ak hbx.1
 have HB3:=Ak (below_then HB2.out HB2.out.size hbx.2)
 have HM3:=Ak (HMEM.out.same fun k _ hk=>hbx.2.block k hk)
 obtain ⟨gx,hgx⟩:∃ gx,gx=w2.heap.size:=⟨_,rfl⟩
 obtain ⟨W3,hW3⟩:∃ W3,W3=(w2.alloc (.cells #[.int .i64 0,.string ⟨#[]⟩,.int .i64 0,.int .i64 0,.int .i64 0,.string ⟨#[]⟩,.int .i64 0,.int .i64 0,.slice none 0 0,.slice none 0 0,.slice none 0 0,.int .i64 0,.int .i64 0,.string ⟨#[]⟩,.int .i64 0,.int .i64 0,.slice none 0 0,.slice none 0 0,.slice none 0 0,.int .i64 0,.slice none 0 0] 30 (0,0))).setRow w2.heap.size #[.int .i64 d.kind,.string d.nm,.int .i64 d.vars,.int .i64 d.ty.kind,.int .i64 d.ty.num,.string d.ty.name,.int .i64 d.ty.lv.kind,.int .i64 d.ty.lv.num,.slice P.pt.A d.ty.lv.kids.length P.pt.c,.slice P.pt.B d.ty.ls.length P.pt.d,.slice P.pt.K d.ty.kids.length P.pt.e,.int .i64 d.val.kind,.int .i64 d.val.num,.string d.val.name,.int .i64 d.val.lv.kind,.int .i64 d.val.lv.num,.slice P.pv.A d.val.lv.kids.length P.pv.c,.slice P.pv.B d.val.ls.length P.pv.d,.slice P.pv.K d.val.kids.length P.pv.e,.int .i64 d.params,.slice P.C d.cs.length P.e]:=⟨_,rfl⟩
 replace HG3:Aside0 (W3.heap[w2.heap.size]?=some (dcO P d)):=by rw [hW3];exact HG3
 replace HB3:Aside0 (Below w.heap.size w W3):=by rw [hW3];exact HB3
 replace HM3:Aside0 (DcS W3 (fun b=>w.heap.size≤b) P d):=by rw [hW3];exact HM3
 rw [← hW3]
 rw [← hgx] at HG3 ⊢
 clear hgx hW3 hbx
 go_upto_if 17 with (fail)
 go_cut [] (fun w4=>Aside0 (Below w.heap.size w w4))
 case first =>
  cases hR:decR xs with
  | error k =>
   have htk:=HTK.out
   rw [hR] at htk
   obtain ⟨rfl,hne,-⟩:=htk
   have hne2:(er == 0)=false:=by simp [hne]
   clear hR hne HTK
   go_wp2
   go_meet
   case rel=>exact HB3
  | ok d' =>
   have htk:=HTK.out
   rw [hR] at htk
   obtain ⟨rfl,rfl⟩:=htk
   have hput:=dec_put HS.out.bytes hR
   have HEB:=Ak (show encB d=xs by unfold encB;rw [if_pos hput.2];exact hput.1.symm)
   have HMD:=Ak hput.2
   clear hR HTK hput
   go_upto_region 4 with (first
    | (refine wpList_load_row rfl 30 _ rfl (gx) rfl 30 _ (0,0) _ HG3.out Try.underlying30 rfl (by kernel_rfl) ?_)
    | (go_at_call 11;go_must (refine (encode_calls d P W3 HM3.out.all).mono ?_;rintro e w4 ⟨v4,rfl,ho,hb⟩;rw [HEB.out] at ho;rw [HMD.out];obtain ⟨A4,c4,rfl,hr⟩:=own_reads ho;have HR4:=Ak hr;have HB4:=Ak (below_then HB3.out HB3.out.size hb);clear ho hb hr)))
   have h3:=string_of_reads Try.underlying31 Try.underlying5 Try.underlying9 (c:=c4) HR4.out
   have h5:=string_of_reads Try.underlying31 Try.underlying5 Try.underlying9 (c:=c) (HS.out.reads.below HB4.out)
   rw [HS.out.reads.1] at h3 ⊢
   go_wp2
   go_meet
   case rel=>exact HB4
 case rest =>
  have HB4:=hcut
  clear HG3 HB3 HM3 HTK HMEM HB2
  go_upto_if 38 with (go_at_call 24;go_must (refine (unbundle_calls A n c xs _ ((HS.out.chg (S:=fun k=>w.heap.size≤k) (Nat.le_refl _) (fun _ h=>h) (chg_of_base HB4.out)).mono HB4.out.size)).mono ?_;rintro e w5 ⟨V5,l5,er5,rfl,hrow,hb,htk⟩;obtain ⟨L5,e5,q5,rfl,hle,hds⟩:=rowDc_dcs hrow;have HLE:=Ak hle;have HDS:=Ak hds;have HB5:=Ak (below_then HB4.out HB4.out.size hb);have HTK:=Ak htk;clear hrow hb htk hle hds))
  go_cut [] (fun w6=>Aside0 (Below w.heap.size w w6))
  case first =>
   cases hR:unR xs with
   | error k =>
    have htk:=HTK.out
    rw [hR] at htk
    obtain ⟨rfl,hne,-⟩:=htk
    have hne2:(er5 == 0)=false:=by simp [hne]
    clear hR hne HTK
    go_wp2
    go_meet
    case rel=>exact HB5
   | ok l' =>
    have htk:=HTK.out
    rw [hR] at htk
    obtain ⟨rfl,rfl⟩:=htk
    have hput:=un_put HS.out.bytes hR
    have HEB:=Ak hput.2
    have HMD:=Ak hput.1
    clear hR HTK hput
    go_upto_region 9 with (go_at_call 19;go_must (refine (bundle_calls l5 L5 l5.length e5 q5 w5 rfl HDS.out.all (by have:=HLE.out;omega)).mono ?_;rintro e w6 ⟨v6,rfl,ho,hb⟩;rw [HEB.out] at ho;rw [HMD.out];obtain ⟨A6,c6,rfl,hr⟩:=own_reads ho;have HR6:=Ak hr;have HB6:=Ak (below_then HB5.out HB5.out.size hb);clear ho hb hr))
    have h3:=string_of_reads Try.underlying31 Try.underlying5 Try.underlying9 (c:=c6) HR6.out
    have h5:=string_of_reads Try.underlying31 Try.underlying5 Try.underlying9 (c:=c) (HS.out.reads.below HB6.out)
    rw [HS.out.reads.1] at h3 ⊢
    go_wp2
    go_meet
    case rel=>exact HB6
  case rest =>
   have HB6:=hcut
   clear HB5 HTK HLE HDS
   go_wp2_with (first
    | (go_at_call 27;go_must (refine (refSound_calls none 0 (.mk 1 0 []) _ (LvS.leaf0 _ _ _ _)).mono ?_;rintro e w7 ⟨rfl,hb⟩;rw [sound_one];have HB7:=Ak (below_then HB6.out HB6.out.size hb);clear hb))
    | (go_at_call 15;go_must (refine (awake_calls _).mono ?_;rintro e w8 ⟨rfl,hb8⟩;have HB8:=Ak (below_then HB7.out HB7.out.size hb8);clear hb8)))
   go_ret
   exact ⟨rfl,HB8.out⟩
end Go.Proofs.Ytcgkeolgflphiaa

namespace Go.Proofs.YtcgkeolgflphiaaW.PrintWords
open Go.ChangeShapes Go.WideShapes
theorem sized_ints {H:Type} {enc:TypeId × Value→H} {P:Program} {W:World} {base:Nat} {spare:Nat→Bool} {held:Bool} {t e:TypeId} {k:IntKind} {a:Option Addr} {len cap:Nat} {d:DataW H} {ps:List MemPlace} {ts:List TypeId} {ds:List (DataW H)} {j:Nat}
  (hsz:(DataW.weightsEach P ts ds).all (·≤reachBytes)=true) (ht:ts[j]?=some t) (hd:ds[j]?=some d) (hu:P.underlying t=some (.slice e)) (he:P.underlying e=some (.int k)) (hc:P.cellsOf e=1) {B:Nat} (hB:P.bytesOf e=B)
  (h:DataW.Trod enc P W base spare held t (.slice a len cap) d ps):len * B≤140737488351232:=by
 obtain ⟨fuel,hf⟩:=h
 rcases open_ints hu he hc hf with ⟨hcs,_⟩ | ⟨x,l,c,zs,hcs,_,hl,_,hz,hx,_,_⟩
 ·simp [Value.cells] at hcs
  obtain ⟨rfl,rfl,rfl⟩:=hcs
  simp
 ·simp [Value.cells] at hcs
  obtain ⟨rfl,rfl,rfl⟩:=hcs
  obtain ⟨hx,_⟩:=Prod.mk.inj hx
  subst hx
  have z:=sized_slice hsz ht hd hu
  rw [hB] at z
  have hl2:len≤zs.length:=by
   rw [hz]
   split
   ·exact hl
   ·exact Nat.le_refl _
  have h1:(lits (H:=H) k (zs.take len)).length+(lits (H:=H) k (zs.drop len)).length=zs.length:=by
   simp [lits]
   omega
  rw [h1] at z
  exact Nat.le_trans (Nat.mul_le_mul_right _ hl2) z
end Go.Proofs.YtcgkeolgflphiaaW.PrintWords
