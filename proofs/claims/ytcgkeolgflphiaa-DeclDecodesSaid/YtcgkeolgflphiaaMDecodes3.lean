/-
  Merged: DrH, DrI, DrJ, DrK, KidS, DrL, DrM, DrN, DrO, DrP, DrQ, LcR, DrR, DrIc, DrJc, DrS, DrT, TkR, DrU, DrV, RrA, RrB, RrC, RrD.
-/
import Derived.Test.YtcgkeolgflphiaaMDecodes2
namespace Go.Proofs.Ytcgkeolgflphiaa
open Go.RowKit Go.Proofs.YtcgkeolgflphiaaW.PrintWords Go.RegionInvYtcgkeolgflphiaa

theorem RdOk.setm {w:World} {g:Nat} {xs:List Int} {N m:Int} (h:RdOk w g xs N m) (m':Int):RdOk (w.setCell ⟨g,2,none⟩ (.int .i64 m')) g xs N m':=by
 obtain ⟨A,n,c,hb,hs⟩:=h
 exact ⟨A,n,c,rd4_2 hb,hs.chg (Nat.le_of_lt (blk_lt hb)) (fun k e=>Nat.le_of_eq e.symm) (chg_set _ _ _ _)⟩
theorem RdOk.setn {w:World} {g:Nat} {xs:List Int} {N m:Int} (h:RdOk w g xs N m) (n':Int):RdOk (w.setCell ⟨g,1,none⟩ (.int .i64 n')) g xs n' m:=by
 obtain ⟨A,n,c,hb,hs⟩:=h
 exact ⟨A,n,c,rd4_1 hb,hs.chg (Nat.le_of_lt (blk_lt hb)) (fun k e=>Nat.le_of_eq e.symm) (chg_set _ _ _ _)⟩
theorem RdBad.setn {w:World} {g:Nat} {e:Int} (h:RdBad w g e) (n':Int):RdBad (w.setCell ⟨g,1,none⟩ (.int .i64 n')) g e:=by
 obtain ⟨A,n,c,N,m,hb⟩:=h
 exact ⟨A,n,c,n',m,rd4_1 hb⟩
theorem lvRd_out {w W0 w5:World} {g:Nat} {N:Int} {R:Except Int (Lv × List Int × Int)} {A:Option Addr} {c:Nat} {l:Lv} (hg:g<w.heap.size) (hz:W0.heap.size=w.heap.size+1) (h0:Chg (fun k=>k=g) w W0) (h1:LvS w5 (fun b=>W0.heap.size≤b) A c l) (h2:Chg (fun k=>k=g) W0 w5)
  (h3:RdSt w5 g N l R) (a b d:Value):LvRd w g N R (.returned (.agg #[.int .i64 l.kind,.int .i64 l.num,.slice A l.kids.length c])) (((w5.setCell ⟨w.heap.size,0,none⟩ a).setCell ⟨w.heap.size,1,none⟩ b).setCell ⟨w.heap.size,2,none⟩ d):=by
 have hch:=chg_set3 w5 w.heap.size a b d
 have h02:=chg_trans h0 h2
 have hs:=h2.size
 refine ⟨A,c,l,rfl,(h1.same fun k hk _=>hch.block k (by omega) (by omega)).mono fun k hk _=>by omega,⟨hch.os.trans h02.os,hch.tape.trans h02.tape,hch.output.trans h02.output,Nat.le_trans h02.size hch.size,fun i hi hs=>?_⟩,?_⟩
 ·rw [hch.block i (Nat.lt_of_lt_of_le hi h02.size) (by omega),h02.block i hi hs]
 ·exact h3.chg (S:=fun k=>k=w.heap.size) (fun k e=>by omega) hch
set_option maxHeartbeats 4000000 in
theorem lev1_calls (g:Nat) (xs:List Int) (N m:Int) (w:World) (h:RdOk w g xs N m) :
  Calls Try.prog 121 #[.pointer (some ⟨g,0,none⟩)] w (LvRd w g N (lvR 32 xs 0)):=by
 have HGL:=Ak h.lt
 have HR0:=Ak (h.below (below_alloc (Below.refl _ _) (lvO 0 0 (.slice none 0 0))))
 have HX0:=Ak (blk_new w (lvO 0 0 (.slice none 0 0)))
 have HB0:=Ak (below_alloc (Below.refl w.heap.size w) (lvO 0 0 (.slice none 0 0)))
 have HZ0:=Ak (show (w.alloc (lvO 0 0 (.slice none 0 0))).heap.size=w.heap.size+1 by simp)
 clear h
 go_enter Try.func121,Try.ntmps121
 go_upto_region 1 with (fail)
 obtain ⟨W0,hW0⟩:∃ W0,W0=w.alloc (lvO 0 0 (.slice none 0 0)):=⟨_,rfl⟩
 rw [← hW0] at HR0 HX0 HB0 HZ0 ⊢
 clear hW0
 obtain ⟨A,n,c,hg,-⟩:=HR0.out
 obtain ⟨c0,c1,c2,c3,z0,z1,z2,z3⟩:=row4 hg
 clear hg
 go_upto_region 2 with (fail)
 have HR1:=Ak (HR0.out.setm 0)
 have HX1:=Ak (((chg_set W0 g 2 (.int .i64 0)).block _ (blk_lt HX0.out) (by have:=HGL.out;omega)).trans HX0.out)
 have HC1:=Ak (show Chg (fun k=>k=g) w (W0.setCell ⟨g,2,none⟩ (.int .i64 0)) from chg_trans (Chg.of_below HB0.out) (chg_set _ _ _ _))
 have HZ1:=Ak (show (W0.setCell ⟨g,2,none⟩ (.int .i64 0)).heap.size=w.heap.size+1 by rw [World.size_setCell];exact HZ0.out)
 obtain ⟨W1,hW1⟩:∃ W1,W1=W0.setCell ⟨g,2,none⟩ (.int .i64 0):=⟨_,rfl⟩
 rw [← hW1] at HR1 HX1 HC1 HZ1 ⊢
 clear hW1 c0 c1 c2 c3 z0 z1 z2 z3 HR0 HX0 HB0 HZ0
 go_wp2_with (go_at_call 119;go_must (refine (level_calls 32 g xs N 0 1 _ (by decide) (by decide) (by decide) (by decide) HR1.out).mono ?_;rintro e w5 ⟨A5,c5,l5,rfl,hl5,hc5,hm5⟩;have HX5:=Ak ((hc5.block _ (blk_lt HX1.out) (by have:=HGL.out;omega)).trans HX1.out);have HL5:=Ak hl5;have HC5:=Ak hc5;have HM5:=Ak hm5;clear hl5 hc5 hm5;obtain ⟨e0,e1,e2,x0,x1,x2⟩:=row3l HX5.out;simp only [lvV]))
 refine bodyPost_ret (results_c rfl _ _ w.heap.size 24 #[.int .i64 l5.kind,.int .i64 l5.num,.slice A5 l5.kids.length c5] (0,0) _ rfl (set3 HX5.out) Try.underlying24 rfl (by kernel_rfl)) rfl ?_
 exact lvRd_out HGL.out HZ1.out HC1.out HL5.out HC5.out HM5.out _ _ _
def lvVal (q:Option Addr × Nat) (l:Lv):Value:=lvV q.1 q.2 l
theorem bs_new {w:World} {A:Option Addr} {n c:Nat} {xs:List Int} {O1:Obj} {N m:Int} (h:Bs w w.heap.size A n c xs):RdOk ((w.alloc O1).alloc (rdB A n c N m 0)) (w.heap.size+1) xs N m:=by
 refine ⟨A,n,c,?_,((h.chg (S:=fun _=>False) (Nat.le_refl _) (fun _ h=>h.elim) (Chg.of_below (below_alloc (below_alloc (Below.refl _ _) _) _))).mono (Nat.le_succ _))⟩
 have:=blk_new (w.alloc O1) (rdB A n c N m 0)
 simpa using this
def BoxSt {α:Type} (x:α) (n:Nat) (er:Int):Except Int (α × List Int × Int)→Prop
 | .ok (t,r,_)=>x=t∧er=0∧r.length=n
 | .error k=>er=k
theorem rd_box {w5:World} {g:Nat} {N:Int} {α:Type} {x:α} {R:Except Int (α × List Int × Int)} (h:RdSt w5 g N x R):∃ A n c N' m er,w5.heap[g]?=some (rdB A n c N' m er)∧BoxSt x n er R:=by
 cases R with
 | error k =>
  obtain ⟨A,n,c,N',m,hb⟩:=h
  exact ⟨A,n,c,N',m,k,hb,rfl⟩
 | ok y =>
  obtain ⟨hx,A,n,c,hb,hs⟩:=h
  exact ⟨A,n,c,N,y.2.2,0,hb,hx,rfl,hs.reads.1⟩
theorem took_of {α:Type} {x:α} {b:α→List Int} {n n6:Nat} {er:Int} {xs:List Int} {R:Except Int (α × List Int × Int)} {R2:Except Int (α × List Int)} (h1:∀ k,R=.error k→R2=.error k∧k≠0) (h2:∀ t r m,R=.ok (t,r,m)→R2=.ok (t,r)∧xs=b t ++ r∧1≤(b t).length) (hn:xs.length=n) (hl:n≤140737488355000) (h:BoxSt x n6 er R):TookP x (IntKind.i64.wrap ((n:Int) - n6)) er xs R2:=by
 cases R with
 | error k =>
  obtain ⟨e1,e2⟩:=h1 k rfl
  rw [e1]
  exact ⟨h,e2⟩
 | ok y =>
  obtain ⟨t,r,m⟩:=y
  obtain ⟨e1,e2,e3⟩:=h2 t r m rfl
  obtain ⟨hx,he,hr⟩:=h
  rw [e1]
  have hlen:=congrArg List.length e2
  rw [List.length_append] at hlen
  refine ⟨hx,he,n - n6,?_,by omega,by omega,?_⟩
  ·rw [IntWalk.i64_in _ (by omega)];omega
  ·rw [← hr,← hn];exact suffix_drop e2
theorem lvB_pos1 (l:Lv):1≤(lvB l).length:=by
 obtain ⟨k,n,ks⟩:=l
 rw [lvB];simp only [List.length_append,List.length_cons,List.length_nil];omega
theorem lev_took {x:Lv} {n n6:Nat} {er:Int} {xs:List Int} (hB:Bytes xs) (hn:xs.length=n) (hl:n≤140737488355000) (h:BoxSt x n6 er (lvR 32 xs 0)):TookP x (IntKind.i64.wrap ((n:Int) - n6)) er xs (lev1 xs):=
 took_of (b:=lvB) (fun k hk=>⟨by unfold lev1;rw [hk],lv_err 32 hk⟩) (fun t r m hk=>⟨by unfold lev1;rw [hk],lv_put 32 hB hk,lvB_pos1 t⟩) hn hl h
theorem close_mem {P α:Type} (E:El P α) {w W1 W6 w7:World} {p:P} {x:α} (h:E.mem W6 (fun b=>W1.heap.size≤b) p x) (hz:W1.heap.size=w.heap.size+2) (h7:Chg (fun k=>k=w.heap.size) W6 w7):E.mem w7 (fun b=>w.heap.size≤b) p x:=
 E.mono (E.same h fun k hk hz=>h7.block k hz (by omega)) fun k hk _=>by omega
theorem close_below {w W1 W6 w7:World} (h1:Below w.heap.size w W1) (hz:W1.heap.size=w.heap.size+2) (h6:Chg (fun k=>k=w.heap.size+1) W1 W6) (h7:Chg (fun k=>k=w.heap.size) W6 w7):Below w.heap.size w w7:=
 Chg.trans_below (Chg.trans_below h1 h6 (fun k e=>by omega) (by omega)) h7 (fun k e=>by omega) (by have:=h6.size;omega)
set_option maxHeartbeats 4000000 in
theorem listLv_calls (gf:Nat) (A:Option Addr) (n c:Nat) (xs:List Int) (w:World) (h:Bs w w.heap.size A n c xs) (hf:w.heap[gf]?=some (.cells #[.func (.func 121) #[] #[]] 143 (0,0))) :
  Calls Try.prog 128 #[.slice A n c,.pointer (some ⟨gf,0,none⟩)] w (TakeP eLv lvVal (lev1 xs) xs w):=by
 have HS:=Ak h
 have HR1:=Ak (bs_new (O1:=lvO 0 0 (.slice none 0 0)) (N:=0) (m:=0) h)
 have hb1:=below_alloc (below_alloc (Below.refl w.heap.size w) (lvO 0 0 (.slice none 0 0))) (rdB A n c 0 0 0)
 have HF1:=Ak (blk_below hf hb1)
 have HX1:=Ak (blk_alloc (blk_new w (lvO 0 0 (.slice none 0 0))) (rdB A n c 0 0 0))
 have HB1:=Ak hb1
 have HZ1:=Ak (show ((w.alloc (lvO 0 0 (.slice none 0 0))).alloc (rdB A n c 0 0 0)).heap.size=w.heap.size+2 by simp)
 clear h hf hb1
 go_enter Try.func128,Try.ntmps128
 go_upto_region 2 with (fail)
 obtain ⟨W1,hW1⟩:∃ W1,W1=(w.alloc (lvO 0 0 (.slice none 0 0))).alloc (rdB A n c 0 0 0):=⟨_,rfl⟩
 rw [← hW1] at HR1 HF1 HX1 HB1 HZ1 ⊢
 clear hW1
 have f0:W1.cell? ⟨gf,0,none⟩=some (.func (.func 121) #[] #[]):=by rw [cell_of_row _ _ _ _ _ _ HF1.out];rfl
 go_upto_region 3 with (go_at_call 121;go_must (refine (lev1_calls (w.heap.size+1) xs 0 0 _ HR1.out).mono ?_;rintro e w5 ⟨A5,c5,l5,rfl,hl5,hc5,hm5⟩;have HX5:=Ak ((hc5.block _ (blk_lt HX1.out) (by omega)).trans HX1.out);have HL5:=Ak hl5;have HC5:=Ak hc5;have HM5:=Ak (rd_box hm5);clear hl5 hc5 hm5;simp only [lvV]))
 obtain ⟨A6,n6,c6,N6,m6,er,hg6,hsem⟩:=HM5.out
 have HG6:=Ak (blk_alloc hg6 (lvO l5.kind l5.num (.slice A5 l5.kids.length c5)))
 have HSEM:=Ak hsem
 have HX6:=Ak (blk_alloc HX5.out (lvO l5.kind l5.num (.slice A5 l5.kids.length c5)))
 have HY6:=Ak (blk_new w5 (lvO l5.kind l5.num (.slice A5 l5.kids.length c5)))
 have HC6:=Ak (chg_trans HC5.out (Chg.of_below (below_alloc (Below.refl _ _) (lvO l5.kind l5.num (.slice A5 l5.kids.length c5)))))
 have HL6:=Ak (HL5.out.later (below_alloc (Below.refl _ _) (lvO l5.kind l5.num (.slice A5 l5.kids.length c5))))
 obtain ⟨gx,hgx⟩:∃ gx,gx=w5.heap.size:=⟨_,rfl⟩
 obtain ⟨W6,hW6⟩:∃ W6,W6=w5.alloc (lvO l5.kind l5.num (.slice A5 l5.kids.length c5)):=⟨_,rfl⟩
 rw [← hgx] at HY6 ⊢
 rw [← hW6] at HG6 HX6 HY6 HC6 HL6 ⊢
 clear hg6 hsem f0 hgx hW6 HX5 HL5 HC5 HM5
 obtain ⟨c0,-,-,c3,-,-,-,-⟩:=row4 HG6.out
 obtain ⟨d0,d1,d2,-,-,-⟩:=row3l HY6.out
 obtain ⟨e0,e1,e2,x0,x1,x2⟩:=row3l HX6.out
 go_cut [4,5] (fun a b w7=>a=.int .i64 (IntKind.i64.wrap ((n:Int) - n6))∧b=.int .i64 er∧Aside0 (w7.heap[w.heap.size]?=some (lvO l5.kind l5.num (.slice A5 l5.kids.length c5)))∧Aside0 (Chg (fun k=>k=w.heap.size) W6 w7))
 case first =>
  go_region_law (fail)
  all_goals (go_wp2;go_meet)
  all_goals (refine ⟨rfl,rfl,⟨?_⟩,⟨?_⟩⟩)
  all_goals (first | exact set3 HX6.out | exact chg_trans (chg_set3 W6 w.heap.size _ _ _) (Chg.of_below (below_drew (Below.refl _ _))) | exact chg_set3 W6 w.heap.size _ _ _)
 case rest =>
  obtain ⟨rfl,rfl,HX7,HC7⟩:=hcut
  go_wp2
  refine bodyPost_ret (results_ctt rfl _ _ w.heap.size 24 #[.int .i64 l5.kind,.int .i64 l5.num,.slice A5 l5.kids.length c5] (0,0) _ rfl HX7.out Try.underlying24 rfl (by kernel_rfl)) rfl ?_
  exact ⟨(A5,c5),l5,_,_,rfl,close_mem eLv (p:=(A5,c5)) HL6.out HZ1.out HC7.out,close_below HB1.out HZ1.out HC6.out HC7.out,lev_took HS.out.bytes HS.out.reads.1 HS.out.len HSEM.out⟩
end Go.Proofs.Ytcgkeolgflphiaa

namespace Go.Proofs.Ytcgkeolgflphiaa
open Go.RowKit Go.Proofs.YtcgkeolgflphiaaW.PrintWords Go.RegionInvYtcgkeolgflphiaa

theorem notNil_takeLv (gf:Nat) (W:World):(binOp .eql 153 (.func (.func 128) #[] #[.pointer (some ⟨gf,0,none⟩)]) .nilFunc).run Try.prog W=.ok (.bool false) W:=by kernel_rfl
set_option maxRecDepth 100000 in
set_option maxHeartbeats 8000000 in
theorem takeLv_calls (gf:Nat) (A:Option Addr) (n c:Nat) (xs:List Int) (most:Int) (w:World) (h:Bs w w.heap.size A n c xs) (hm0:0≤most) (hm1:most≤16) (hf:w.heap[gf]?=some (.cells #[.func (.func 121) #[] #[]] 143 (0,0))) :
  Calls Try.prog 127 #[.slice A n c,.int .i64 most,.func (.func 128) #[] #[.pointer (some ⟨gf,0,none⟩)]] w (TakeLP eLv (listR most lev1 xs) xs w):=by
 have HS:=Ak h
 have hnil:=notNil_takeLv gf
 have hlen:=h.len
 have hxn:=h.reads.1
 have HF:=Ak hf
 clear hf
 go_enter Try.func127,Try.ntmps127
 rcases takeN_cases h.bytes with hT | hT | ⟨m,k,hT,hm,hk1,hk2⟩
 ·have HE:=Ak (listR_short (most:=most) (f:=lev1) hT (by decide))
  have HT:=Ak hT
  clear hT h hxn
  go_wp2_with (go_at_call 75;go_must (refine (take_calls _ _ _ xs _ HS.out.reads HS.out.bytes hlen).mono ?_;rintro e w' ⟨rfl,hw⟩;obtain rfl:w=w':=hw.symm;rw [HT.out]))
  go_ret3
  exact takeLP_err HE.out (by decide) (Below.refl _ _)
 ·have HE:=Ak (listR_short (most:=most) (f:=lev1) hT (by decide))
  have HT:=Ak hT
  clear hT h hxn
  go_wp2_with (go_at_call 75;go_must (refine (take_calls _ _ _ xs _ HS.out.reads HS.out.bytes hlen).mono ?_;rintro e w' ⟨rfl,hw⟩;obtain rfl:w=w':=hw.symm;rw [HT.out]))
  go_ret3
  exact takeLP_err HE.out (by decide) (Below.refl _ _)
 ·have HT:=Ak hT
  by_cases hlong:most<m
  ·have HE:=Ak (listR_many (f:=lev1) hT hlong)
   clear hT h hxn
   go_wp2_with (go_at_call 75;go_must (refine (take_calls _ _ _ xs _ HS.out.reads HS.out.bytes hlen).mono ?_;rintro e w' ⟨rfl,hw⟩;obtain rfl:w=w':=hw.symm;rw [HT.out]))
   go_ret3
   exact takeLP_err HE.out (by decide) (Below.refl _ _)
  ·have h1:(m:Int)≤most:=by omega
   have HE:=Ak (listR_ok (f:=lev1) hT hlong)
   have hk3:k≤n:=by omega
   have HXN:=Ak hxn
   clear hT h hlong hxn
   go_wp2_with (go_at_call 75;go_must (refine (take_calls _ _ _ xs _ HS.out.reads HS.out.bytes hlen).mono ?_;rintro e w' ⟨rfl,hw⟩;obtain rfl:w=w':=hw.symm;rw [HT.out]))
   go_loopw [9,10,12] (fun u p v wr=>∃ (r at_:Nat) (acc:List Lv),u=.int .u64 r∧p=.int .i64 at_∧r+acc.length≤16∧1≤at_∧at_≤n∧Aside0 (listR most lev1 xs=moreR acc (manyR lev1 r (xs.drop at_)))∧Aside0 (RowG eLv wr w.heap.size v acc)∧Aside0 (Below w.heap.size w wr)) (fun u _ _ _=>(intOf u).toNat)
   case atStart=>exact ⟨m,k,[],rfl,rfl,by simp;omega,hk1,hk3,HE,⟨RowG.nil _ _ _⟩,⟨Below.refl _ _⟩⟩
   case round =>
    clear HE HT
    obtain ⟨r,at_,acc,rfl,rfl,hr16,hat1,hat,HE,HO,HB⟩:=hrel
    rcases r with _ | r
    ·have HE2:=Ak (show listR most lev1 xs=.ok (acc,xs.drop at_) from HE.out.trans moreR_end)
     go_wp2
     go_ret3
     exact ⟨u12,acc,at_,0,rfl,HO.out,HB.out,by rw [HE2.out];exact ⟨rfl,rfl,at_,rfl,hat1,by have:=HXN.out;omega,rfl⟩⟩
    ·obtain ⟨A',hcut,hrd⟩:=cut_old (A:=A) (n:=n) (c:=c) at_ hat
     have HRD:=Ak (hrd wr wr.heap.size xs ((HS.out.chg (S:=fun k=>w.heap.size≤k) (Nat.le_refl _) (fun _ h=>h) (chg_of_base HB.out)).mono HB.out.size))
     have hr1:(((r+1:Nat):Int) == 0)=false:=by simp;omega
     clear hrd
     go_upto_region 12 with (first
      | (go_at_call 128;go_must (refine (listLv_calls gf A' (n - at_) (c - at_) (xs.drop at_) _ HRD.out ((HB.out.block _ (blk_lt HF.out)).trans HF.out)).mono ?_;rintro e w2 ⟨p,l5,cnt,er,rfl,hmem,hb,htk⟩;obtain ⟨p1,p2⟩:=p;have HMEM:=Ak hmem;have HB2:=Ak hb;have HTK:=Ak htk;clear hmem hb htk;simp only [lvVal,lvV])))
     have hbx:(w2.alloc (.cells #[.int .i64 l5.kind,.int .i64 l5.num,.slice p1 l5.kids.length p2] 24 (0,0))).heap[w2.heap.size]?=some (.cells #[.int .i64 l5.kind,.int .i64 l5.num,.slice p1 l5.kids.length p2] 24 (0,0))∧Below w2.heap.size w2 (w2.alloc (.cells #[.int .i64 l5.kind,.int .i64 l5.num,.slice p1 l5.kids.length p2] 24 (0,0))):=⟨blk_new _ _,below_alloc (Below.refl _ _) _⟩
     have hb2:=below_then HB2.out HB2.out.size hbx.2
     have HY:=Ak hbx.1
     have HB3:=Ak (show Below w.heap.size w (w2.alloc (.cells #[.int .i64 l5.kind,.int .i64 l5.num,.slice p1 l5.kids.length p2] 24 (0,0))) from below_then HB.out HB.out.size hb2)
     have HO3:=Ak (RowG.later HO.out hb2)
     have HM3:=Ak (eLv.beside HO.out HB.out.size (eLv.same (w':=w2.alloc (.cells #[.int .i64 l5.kind,.int .i64 l5.num,.slice p1 l5.kids.length p2] 24 (0,0))) HMEM.out fun k hk hz=>hbx.2.block k hz))
     obtain ⟨gx,hgx⟩:∃ gx,gx=w2.heap.size:=⟨_,rfl⟩
     obtain ⟨W3,hW3⟩:∃ W3,W3=w2.alloc (.cells #[.int .i64 l5.kind,.int .i64 l5.num,.slice p1 l5.kids.length p2] 24 (0,0)):=⟨_,rfl⟩
     rw [← hW3] at HY HB3 HO3 HM3 ⊢
     rw [← hgx] at HY ⊢
     clear hbx hb2
     clear hgx hW3 HMEM HB2 HRD hcut
     obtain ⟨d0,d1,d2,-,-,-⟩:=row3l HY.out
     cases hf1:lev1 (xs.drop at_) with
     | error ee =>
      have htk:=HTK.out
      rw [hf1] at htk
      obtain ⟨rfl,hne⟩:=htk
      have hne':(er != 0)=true:=by simp [hne]
      have HK:=Ak (HE.out.trans (moreR_bad hf1))
      have HNE:=Ak hne
      clear hf1 hne HTK
      go_wp2
      go_ret3
      exact takeLP_err HK.out HNE.out HB3.out
     | ok y =>
      obtain ⟨x',r'⟩:=y
      have htk:=HTK.out
      rw [hf1] at htk
      obtain ⟨hxx,rfl,u,rfl,hu1,hu2,hrr⟩:=htk
      subst hxx
      have HK:=Ak (HE.out.trans (moreR_next hf1))
      have hu3:at_+u≤n:=by have:=HXN.out;rw [List.length_drop] at hu2;omega
      have HRR:=Ak (show r'=xs.drop (at_+u) by rw [hrr,List.drop_drop])
      obtain ⟨cs,q,hown,hcs⟩:=HO3.out
      have HOWN:=Ak hown
      have HCS:=Ak hcs
      clear hf1 HTK hown hcs hrr hu2
      go_wp2_with (first | (at_builtin;go_must (refine print_append_cells (w0:=W3) w.heap.size rfl (.tmp 65) (.tmp 67) 22 24 _ 3 40 rfl Try.underlying22 infoLv rfl (by decide) (by decide) u12 acc.length cs [.int .i64 l5.kind,.int .i64 l5.num,.slice p1 l5.kids.length p2] rfl rfl rfl (List.all_eq_true.1 rfl) HOWN.out (Below.refl _ _) HB3.out.size (by omega) ?_;intro v3 w3 ho hb hg hat;have HO4:=Ak (RowG.push (E:=eLv) HOWN.out HCS.out HM3.out ho hg hat);have HB4:=Ak (HB3.out.trans hb);clear ho hb hg hat)))
      go_roundw
      case rel=>exact ⟨r,at_+u,acc ++ [l5],by go_num,by go_num,by simp only [List.length_append,List.length_singleton];omega,by omega,hu3,⟨by rw [HK.out,HRR.out]⟩,HO4,HB4⟩
      case measure=>(simp [intOf];try omega)
end Go.Proofs.Ytcgkeolgflphiaa

namespace Go.Proofs.Ytcgkeolgflphiaa
open Go.RowKit Go.Proofs.YtcgkeolgflphiaaW.PrintWords Go.RegionInvYtcgkeolgflphiaa

def ListSt {α:Type} (W:World) (g:Nat) (N m:Int) (l:List α):Except Int (List α × List Int)→Prop
 | .ok (l',r)=>l=l'∧RdOk W g r N m
 | .error k=>l=[]∧RdBad W g k
def ListRd {P α:Type} (E:El P α) (w:World) (g:Nat) (N m:Int) (R:Except Int (List α × List Int)) (e:Ending) (w':World):Prop:=
 ∃ V l,e=.returned V∧RowG E w' w.heap.size V l∧Chg (fun k=>k=g) w w'∧ListSt w' g N m l R
theorem RowG.base {P α:Type} {E:El P α} {w:World} {lo lo':Nat} {V:Value} {xs:List α} (h:RowG E w lo V xs) (hl:lo'≤lo):RowG E w lo' V xs:=by
 obtain ⟨cs,q,ho,hk⟩:=h
 exact ⟨cs,q,own_weaken ho hl,fun i x hx=>⟨(hk i x hx).1,E.mono (hk i x hx).2 fun k hk _=>⟨by omega,hk.2⟩⟩⟩
theorem list_row {P α:Type} {E:El P α} {W2:World} {lo lo' g j:Nat} {V x:Value} {l:List α} (h:RowG E W2 lo V l) (hl:lo'≤lo) (hg:g<lo'):RowG E (W2.setCell ⟨g,j,none⟩ x) lo' V l:=
 (h.base hl).keep (chg_set _ _ _ _) (fun k e=>by omega)
set_option maxHeartbeats 4000000 in
theorem listOfLv_bad (g:Nat) (er most:Int) (w:World) (h:RdBad w g er) (he:er≠0) :
  Calls Try.prog 120 #[.pointer (some ⟨g,0,none⟩),.int .i64 most,.func (.func 121) #[] #[]] w fun e w'=>e=.returned (.slice none 0 0)∧Below w.heap.size w w':=by
 have hb1:=below_alloc (Below.refl w.heap.size w) (.cells #[.func (.func 121) #[] #[]] 143 (0,0))
 have HB1:=Ak hb1
 obtain ⟨A,n,c,N,m,hg⟩:=h.below hb1
 have he':(er != 0)=true:=by simp [he]
 have HG:=Ak hg
 clear he h hb1 hg
 go_enter Try.func120,Try.ntmps120
 go_upto_region 1 with (fail)
 obtain ⟨W1,hW1⟩:∃ W1,W1=w.alloc (.cells #[.func (.func 121) #[] #[]] 143 (0,0)):=⟨_,rfl⟩
 rw [← hW1] at HB1 HG ⊢
 clear hW1
 obtain ⟨c0,c1,c2,c3,z0,z1,z2,z3⟩:=row4 HG.out
 go_wp2
 go_ret
 exact ⟨rfl,HB1.out⟩
set_option maxHeartbeats 8000000 in
theorem listOfLv_calls (g:Nat) (xs:List Int) (N m most:Int) (w:World) (h:RdOk w g xs N m) (hm0:0≤most) (hm1:most≤16) :
  Calls Try.prog 120 #[.pointer (some ⟨g,0,none⟩),.int .i64 most,.func (.func 121) #[] #[]] w (ListRd eLv w g N m (listR most lev1 xs)):=by
 have hb1:=below_alloc (Below.refl w.heap.size w) (.cells #[.func (.func 121) #[] #[]] 143 (0,0))
 have HB1:=Ak hb1
 have HF1:=Ak (blk_new w (.cells #[.func (.func 121) #[] #[]] 143 (0,0)))
 obtain ⟨A,n,c,hg,hs⟩:=h.below hb1
 have HG:=Ak hg
 have HS:=Ak hs
 have HGL:=Ak h.lt
 clear h hb1 hg hs
 go_enter Try.func120,Try.ntmps120
 go_upto_region 1 with (fail)
 obtain ⟨gf,hgf⟩:∃ gf,gf=w.heap.size:=⟨_,rfl⟩
 rw [← hgf]
 obtain ⟨W1,hW1⟩:∃ W1,W1=w.alloc (.cells #[.func (.func 121) #[] #[]] 143 (0,0)):=⟨_,rfl⟩
 rw [← hW1] at HB1 HF1 HG HS ⊢
 rw [← hgf] at HF1
 have HZ:=Ak (show w.heap.size≤W1.heap.size by rw [hW1];simp)
 clear hW1 hgf
 obtain ⟨c0,c1,c2,c3,z0,z1,z2,z3⟩:=row4 HG.out
 go_upto_region 4 with (go_at_call 127;go_must (refine (takeLv_calls gf A n c xs most _ (HS.out.mono (Nat.le_of_lt (blk_lt HG.out))) hm0 hm1 HF1.out).mono ?_;rintro e w2 ⟨V,l,cnt,er,rfl,hrow,hb,htk⟩;have HG2:=Ak (blk_below HG.out hb);have HS2:=Ak (HS.out.chg (S:=fun _=>False) (Nat.le_of_lt (blk_lt HG.out)) (fun _ h=>h.elim) (Chg.of_below hb));have HROW:=Ak hrow;have HTK:=Ak htk;have HB2:=Ak hb;clear hrow hb htk))
 clear c0 c1 c2 c3 z0 z1 z2 z3
 cases hR:listR most lev1 xs with
 | error k =>
  have htk:=HTK.out
  rw [hR] at htk
  obtain ⟨rfl,rfl,rfl,rfl,hne⟩:=htk
  have HNE:=Ak hne
  have HRE:=Ak hR
  clear hR hne HTK
  go_wp2_with (go_at_call 106;go_must (refine (skip_no g A n c N m 0 er _ HG2.out HNE.out).mono ?_;rintro e w' ⟨rfl,hw⟩;subst hw))
  go_ret
  exact ⟨_,[],rfl,RowG.nil _ _ _,chg_trans (Chg.of_below HB1.out) (chg_trans (Chg.of_below HB2.out) (chg_set _ _ _ _)),by rw [HRE.out];exact ⟨rfl,_,_,_,_,_,rd4_3 HG2.out⟩⟩
 | ok y =>
  obtain ⟨l',r⟩:=y
  have htk:=HTK.out
  rw [hR] at htk
  obtain ⟨rfl,rfl,u,rfl,hu1,hu2,hrr⟩:=htk
  have hu3:u≤n:=by rw [HS.out.reads.1] at hu2;exact hu2
  obtain ⟨A',hcut,hcs⟩:=cut_old (A:=A) (n:=n) (c:=c) u hu3
  have HCUT:=Ak hcut
  have HCS:=Ak (hcs _ g xs HS2.out)
  have HRR:=Ak hrr
  have HRE:=Ak hR
  clear hR HTK hcut hcs hrr hu2
  go_wp2_with (go_at_call 106;go_must (refine (skip_ok g A A' n c (n - u) (c - u) N m u _ HG2.out HCUT.out).mono ?_;rintro e w' ⟨rfl,hw⟩;subst hw))
  go_ret
  have HRX:=HROW.out
  exact ⟨_,l,rfl,list_row HRX HZ.out HGL.out,chg_trans (Chg.of_below HB1.out) (chg_trans (Chg.of_below HB2.out) (chg_set _ _ _ _)),by rw [HRE.out];exact ⟨rfl,A',n - u,c - u,rd4_0 HG2.out,by rw [HRR.out];exact HCS.out.chg (Nat.le_of_lt (blk_lt HG2.out)) (fun k e=>Nat.le_of_eq e.symm) (chg_set _ _ _ _)⟩⟩
end Go.Proofs.Ytcgkeolgflphiaa

namespace Go.Proofs.Ytcgkeolgflphiaa
open Go.RowKit Go.Proofs.YtcgkeolgflphiaaW.PrintWords Go.RegionInvYtcgkeolgflphiaa

structure TOwn where
 n:Int
 s:ByteArray
 lv:Lv
 ls:List Lv
def tmKids (k:Int):Nat:=if k=1∨k=2∨k=7 then 0 else if k=5 then 3 else 2
def tmOwn (k:Int) (r:List Int):Except Int (TOwn × List Int):=
 if k=1 then match numR r with
  | .error e=>.error e
  | .ok (n,r0)=>.ok (⟨n,⟨#[]⟩,.mk 0 0 [],[]⟩,r0)
 else if k=2 then match lev1 r with
  | .error e=>.error e
  | .ok (l,r0)=>.ok (⟨0,⟨#[]⟩,l,[]⟩,r0)
 else if k=7 then match nameR r with
  | .error e=>.error e
  | .ok (s,r0)=>match listR 6 lev1 r0 with
   | .error e=>.error e
   | .ok (ls,r1)=>.ok (⟨0,s,.mk 0 0 [],ls⟩,r1)
 else .ok (⟨0,⟨#[]⟩,.mk 0 0 [],[]⟩,r)
def tmPre (f:Nat) (R0:Except Int (TOwn × List Int)) (m:Int) (j:Nat):Except Int (List Tm × List Int × Int):=match R0 with
 | .error e=>.error e
 | .ok (_,r0)=>kidsR (tmR f) j r0 m
def tmAll (k:Int) (R0:Except Int (TOwn × List Int)):Except Int (List Tm × List Int × Int)→Except Int (Tm × List Int × Int)
 | .error e=>.error e
 | .ok (l,r,m)=>match R0 with
  | .error e=>.error e
  | .ok (o,_)=>.ok (.mk k o.n o.s o.lv o.ls l,r,m)
theorem tmR_pre {f:Nat} {xs r:List Int} {m k:Int} (hK:kindR 7 xs=.ok (k,r)) (hm:m<400):tmR (f+1) xs m=tmAll k (tmOwn k r) (tmPre f (tmOwn k r) (m+1) (tmKids k)):=by
 rw [tmR,hK]
 simp only []
 rw [if_neg (by omega)]
 unfold tmOwn tmKids
 by_cases k1:k=1
 ·subst k1
  simp only [if_true,true_or]
  cases numR r with
  | error e=>rfl
  | ok x=>rfl
 ·rw [if_neg k1,if_neg k1]
  by_cases k2:k=2
  ·subst k2
   simp only [if_true,true_or,or_true]
   cases lev1 r with
   | error e=>rfl
   | ok x=>rfl
  ·rw [if_neg k2,if_neg k2]
   by_cases k7:k=7
   ·subst k7
    simp only [if_true,or_true]
    cases nameR r with
    | error e=>rfl
    | ok x =>
     simp only []
     cases listR 6 lev1 x.2 with
     | error e=>rfl
     | ok y=>rfl
   ·rw [if_neg k7,if_neg k7,if_neg (show ¬ (k=1∨k=2∨k=7) by omega)]
    simp only [tmPre]
    cases kidsR (tmR f) (if k=5 then 3 else 2) r (m+1) with
    | error e=>rfl
    | ok y=>rfl
theorem tmPre_err {f:Nat} {R0:Except Int (TOwn × List Int)} {m e:Int} {j:Nat} (h:tmPre f R0 m j=.error e):tmPre f R0 m (j+1)=.error e:=by
 unfold tmPre at h ⊢
 cases R0 with
 | error e'=>exact h
 | ok x =>
  obtain ⟨n,r0⟩:=x
  simp only [] at h ⊢
  rw [kids_snoc,h]
theorem tmPre_ok {f:Nat} {R0:Except Int (TOwn × List Int)} {m m1:Int} {j:Nat} {l:List Tm} {r:List Int} (h:tmPre f R0 m j=.ok (l,r,m1)):tmPre f R0 m (j+1)=match tmR f r m1 with
  | .error e=>.error e
  | .ok (t,r',m2)=>.ok (l ++ [t],r',m2):=by
 unfold tmPre at h ⊢
 cases R0 with
 | error e'=>cases h
 | ok x =>
  obtain ⟨n,r0⟩:=x
  simp only [] at h ⊢
  simp only [kids_snoc,h]
  cases tmR f r m1 <;> rfl
theorem tm_grow:∀ (f:Nat) {xs r:List Int} {m m':Int} {t:Tm},0≤m→m≤400→tmR f xs m=.ok (t,r,m')→0≤m'∧m'≤400
 | 0,xs,r,m,m',t,_,_,h=>by
  unfold tmR at h
  split at h <;> cases h
 | f+1,xs,r,m,m',t,h0,h1,h=>by
  cases hK:kindR 7 xs with
  | error e=>rw [tmR,hK] at h;cases h
  | ok x =>
   obtain ⟨k,r0⟩:=x
   by_cases hm:m<400
   ·rw [tmR_pre hK hm] at h
    cases ho:tmOwn k r0 with
    | error e=>rw [ho] at h;cases h
    | ok y =>
     rw [ho] at h
     unfold tmPre at h
     simp only [] at h
     cases hk:kidsR (tmR f) (tmKids k) y.2 (m+1) with
     | error e=>rw [hk] at h;cases h
     | ok z =>
      obtain ⟨l,r2,m2⟩:=z
      rw [hk] at h
      simp only [tmAll,Except.ok.injEq,Prod.mk.injEq] at h
      obtain ⟨-,-,rfl⟩:=h
      exact kids_grow (fun h0 h1 e=>tm_grow f h0 h1 e) _ (by omega) (by omega) hk
   ·rw [tmR,hK] at h
    simp only [] at h
    rw [if_pos (by omega)] at h
    cases h
theorem tmPre_grow {f:Nat} {R0:Except Int (TOwn × List Int)} {m m1:Int} {j:Nat} {l:List Tm} {r:List Int} (h:tmPre f R0 m j=.ok (l,r,m1)) (h0:0≤m) (h1:m≤400):0≤m1∧m1≤400:=by
 unfold tmPre at h
 cases R0 with
 | error e'=>cases h
 | ok x =>
  obtain ⟨n,r0⟩:=x
  exact kids_grow (fun h0 h1 e=>tm_grow f h0 h1 e) _ h0 h1 h
theorem own_err {k:Int} {r:List Int} {e:Int} (h:tmOwn k r=.error e):e≠0:=by
 unfold tmOwn at h
 split at h
 ·split at h
  ·rename_i h1;cases h;exact num_err h1
  ·cases h
 ·split at h
  ·split at h
   ·rename_i h1;cases h;exact lev1_err h1
   ·cases h
  ·split at h
   ·split at h
    ·rename_i h1;cases h;exact name_err h1
    ·split at h
     ·rename_i h1;cases h;exact list_err (fun h=>lev1_err h) h1
     ·cases h
   ·cases h
theorem tmPre_ne {f:Nat} {k:Int} {r0:List Int} {m e:Int} {j:Nat} (h:tmPre f (tmOwn k r0) m j=.error e):e≠0:=by
 unfold tmPre at h
 cases hn:tmOwn k r0 with
 | error e' =>
  rw [hn] at h
  cases h;exact own_err hn
 | ok x =>
  rw [hn] at h
  exact kids_err (fun h=>tm_err f h) _ h
theorem many_len {α:Type} {f:List Int→Except Int (α × List Int)}:∀ (n:Nat) {xs r:List Int} {l:List α},manyR f n xs=.ok (l,r)→l.length=n
 | 0,xs,r,l,h=>by
  simp only [manyR,Except.ok.injEq,Prod.mk.injEq] at h
  obtain ⟨rfl,rfl⟩:=h
  rfl
 | n+1,xs,r,l,h=>by
  unfold manyR at h
  split at h
  ·cases h
  ·split at h
   ·cases h
   ·rename_i hl
    simp only [Except.ok.injEq,Prod.mk.injEq] at h
    obtain ⟨rfl,-⟩:=h
    rw [List.length_cons,many_len n hl]
theorem list_len {α:Type} {most:Int} {f:List Int→Except Int (α × List Int)} {xs r:List Int} {l:List α} (h:listR most f xs=.ok (l,r)) (h0:0≤most):(l.length:Int)≤most:=by
 unfold listR at h
 split at h
 ·cases h
 ·split at h
  ·cases h
  ·rw [many_len _ h];omega
theorem okNum_fit {r:List Int} (hB:Bytes r):0≤okNum (numR r)∧okNum (numR r)≤1048576:=by
 have h:=takeN_range hB
 unfold numR
 split
 ·simp only [okNum];omega
 ·split
  ·simp only [okNum];omega
  ·simp only [okNum];omega
end Go.Proofs.Ytcgkeolgflphiaa

namespace Go.Proofs.Ytcgkeolgflphiaa
open Go.RowKit Go.Proofs.YtcgkeolgflphiaaW.PrintWords Go.RegionInvYtcgkeolgflphiaa

abbrev SetL (S:Nat→Prop) (lo:Nat) (V:Value):Nat→Prop:=fun b=>S b∨(lo≤b∧V.ownBlock≠some b)
def KidsL (w:World) (S:Nat→Prop) (lo:Nat) (V:Value) (xs:List Lv):Prop:=
 ∃ (cells:List Value) (fA:Nat→Option Addr) (fc:Nat→Nat),w.ownsRow lo 24 3 V xs.length cells ∧
  ∀ (i:Nat) (x:Lv),xs[i]?=some x→cells[i * 3]?=some (.int .i64 x.kind)∧cells[i * 3+1]?=some (.int .i64 x.num)∧cells[i * 3+2]?=some (.slice (fA i) x.kids.length (fc i))∧LvS w (SetL S lo V) (fA i) (fc i) x
theorem KidsL.nil (w:World) (S:Nat→Prop) (lo:Nat):KidsL w S lo (.slice none 0 0) []:=⟨[],fun _=>none,fun _=>0,own_nil _ _ _ _,fun i x h=>by simp at h⟩
theorem KidsL.later {w w':World} {S:Nat→Prop} {lo:Nat} {V:Value} {xs:List Lv} (h:KidsL w S lo V xs) (hb:Below w.heap.size w w'):KidsL w' S lo V xs:=by
 obtain ⟨cells,fA,fc,ho,hk⟩:=h
 exact ⟨cells,fA,fc,pw_own_below ho hb,fun i x hx=>⟨(hk i x hx).1,(hk i x hx).2.1,(hk i x hx).2.2.1,(hk i x hx).2.2.2.later hb⟩⟩
theorem KidsL.other {w w':World} {S:Nat→Prop} {lo g:Nat} {V:Value} {xs:List Lv} (h:KidsL w S lo V xs) (hc:Chg (fun k=>k=g) w w') (hg:g<lo) (hS:¬ S g):KidsL w' S lo V xs:=by
 obtain ⟨cells,fA,fc,ho,hk⟩:=h
 refine ⟨cells,fA,fc,ownsRow_same ho fun k hk=>hc.block k (own_lt ho k hk) (by have:=own_base ho k hk;omega),fun i x hx=>?_⟩
 obtain ⟨h1,h2,h3,h4⟩:=hk i x hx
 exact ⟨h1,h2,h3,h4.same fun k hs hz=>hc.block k hz (fun e=>by rcases hs with hs | hs;exact hS (e ▸ hs);omega)⟩
theorem setL_keep {w w1:World} {S:Nat→Prop} {lo:Nat} {V v1:Value} {e:TypeId} {size n:Nat} {cells:List Value} (ho:w.ownsRow lo e size V n cells) (hS:∀ b,S b→b<lo) (hat:v1.ownBlock=V.ownBlock∨∃ b,v1.ownBlock=some b∧w.heap.size≤b) (hg:w.grownBy w1 V.ownBlock) :
  (∀ k,SetL S lo V k→k<w.heap.size→SetL S lo v1 k)∧∀ k,SetL S lo V k→k<w.heap.size→w1.heap[k]?=w.heap[k]?:=by
 refine ⟨fun k hk hz=>hk.imp id fun h=>⟨h.1,?_⟩,fun k hk hz=>hg.block k hz fun e=>?_⟩
 ·rcases hat with e | ⟨b,e,hb⟩
  ·rw [e];exact h.2
  ·rw [e];intro h';injection h' with h';omega
 ·rcases hk with hk | hk
  ·have:=hS k hk
   have:=own_base ho k e.symm
   omega
  ·exact hk.2 e.symm
theorem KidsL.push {w w1:World} {S:Nat→Prop} {lo:Nat} {V v1:Value} {xs:List Lv} {x:Lv} {A:Option Addr} {c:Nat} {cells:List Value} {fA:Nat→Option Addr} {fc:Nat→Nat} (hS:∀ b,S b→b<lo) (ho:w.ownsRow lo 24 3 V xs.length cells)
  (hk:∀ (i:Nat) (x:Lv),xs[i]?=some x→cells[i * 3]?=some (.int .i64 x.kind)∧cells[i * 3+1]?=some (.int .i64 x.num)∧cells[i * 3+2]?=some (.slice (fA i) x.kids.length (fc i))∧LvS w (SetL S lo V) (fA i) (fc i) x)
  (hx:LvS w (SetL S lo V) A c x) (ho1:w1.ownsRow lo 24 3 v1 (xs.length+1) (cells ++ [.int .i64 x.kind,.int .i64 x.num,.slice A x.kids.length c]))
  (hg:w.grownBy w1 V.ownBlock) (hat:v1.ownBlock=V.ownBlock∨∃ b,v1.ownBlock=some b∧w.heap.size≤b):KidsL w1 S lo v1 (xs ++ [x]):=by
 obtain ⟨k1,k2⟩:=setL_keep ho hS hat hg
 have keep:∀ {A:Option Addr} {c:Nat} {y:Lv},LvS w (SetL S lo V) A c y→LvS w1 (SetL S lo v1) A c y:=by
  intro A c y h
  have h1:LvS w (fun b=>SetL S lo V b∧b<w.heap.size) A c y:=h.mono fun k hk hz=>⟨hk,hz⟩
  exact (h1.same fun k hs hz=>k2 k hs.1 hz).mono fun k hs _=>k1 k hs.1 hs.2
 have hl:=own_len ho
 refine ⟨_,fun i=>if i=xs.length then A else fA i,fun i=>if i=xs.length then c else fc i,by simpa using ho1,fun i y hy=>?_⟩
 rcases Nat.lt_or_ge i xs.length with hi | hi
 ·rw [List.getElem?_append_left hi] at hy
  obtain ⟨h1,h2,h3,h4⟩:=hk i y hy
  rw [List.getElem?_append_left (by omega),List.getElem?_append_left (by omega),List.getElem?_append_left (by omega)]
  simp only [if_neg (show ¬ i=xs.length by omega)]
  exact ⟨h1,h2,h3,keep h4⟩
 ·rw [List.getElem?_append_right hi] at hy
  have hi2:i=xs.length:=by
   cases e:i - xs.length with
   | zero=>omega
   | succ j=>rw [e] at hy;simp at hy
  subst hi2
  obtain rfl:x=y:=by simpa using hy
  rw [List.getElem?_append_right (by omega),List.getElem?_append_right (by omega),List.getElem?_append_right (by omega)]
  simp only [↓reduceIte]
  rw [show xs.length * 3 - cells.length=0 by omega,show xs.length * 3+1 - cells.length=1 by omega,show xs.length * 3+2 - cells.length=2 by omega]
  exact ⟨rfl,rfl,rfl,keep hx⟩
theorem own_max {w:World} {lo n:Nat} {e:TypeId} {size:Nat} {A:Option Addr} {c:Nat} {xs:List Value} (ho:w.ownsRow lo e size (.slice A n c) n xs):c≤9223372036854775807:=by
 rcases ho.2 with ⟨h1,_⟩ | ⟨g,cap,cur,h1,_,_,h2,h3,_⟩
 ·injection h1 with _ _ h1;omega
 ·injection h1 with _ _ h1
  subst h1
  simp only [maxLen] at h3
  omega
theorem KidsL.level {w:World} {S:Nat→Prop} {lo:Nat} {V:Value} {xs:List Lv} (h:KidsL w S lo V xs):∃ A c,V=.slice A xs.length c∧LvS w (fun b=>S b∨lo≤b) A c (.mk 0 0 xs):=by
 obtain ⟨cells,fA,fc,ho,hk⟩:=h
 obtain ⟨A,c,rfl⟩:=own_slice ho
 refine ⟨A,c,rfl,.mk fA fc (own_cap ho) (own_max ho) (fun i x hx=>?_) (fun i x hx=>(hk i x hx).2.2.2.mono fun b hb _=>hb.imp id And.left)⟩
 have hi:i<xs.length:=by
  rcases Nat.lt_or_ge i xs.length with h | h
  ·exact h
  ·rw [List.getElem?_eq_none h] at hx;cases hx
 obtain ⟨g,cap,hv,hb,_⟩:=ho.form (by omega)
 obtain ⟨h1,h2,h3,_⟩:=hk i x hx
 have hv':=hv
 injection hv with hA
 exact ⟨⟨g,0,none⟩,hA,.inr hb,rfl,ho.cells (g:=g) (by rw [hv'];rfl) _ _ h1,ho.cells (g:=g) (by rw [hv'];rfl) _ _ h2,ho.cells (g:=g) (by rw [hv'];rfl) _ _ h3⟩
def KidsT (w:World) (S:Nat→Prop) (lo:Nat) (V:Value) (xs:List Tm):Prop:=
 ∃ (cells:List Value) (q:Nat→Pl),w.ownsRow lo 27 8 V xs.length cells ∧
  ∀ (i:Nat) (x:Tm),xs[i]?=some x→(∀ (j:Nat) (v:Value),(tmC (q i) x)[j]?=some v→cells[i * 8+j]?=some v)∧TmS w (SetL S lo V) (q i) x
theorem KidsT.nil (w:World) (S:Nat→Prop) (lo:Nat):KidsT w S lo (.slice none 0 0) []:=⟨[],fun _=>default,own_nil _ _ _ _,fun i x h=>by simp at h⟩
theorem KidsT.later {w w':World} {S:Nat→Prop} {lo:Nat} {V:Value} {xs:List Tm} (h:KidsT w S lo V xs) (hb:Below w.heap.size w w'):KidsT w' S lo V xs:=by
 obtain ⟨cells,q,ho,hk⟩:=h
 exact ⟨cells,q,pw_own_below ho hb,fun i x hx=>⟨(hk i x hx).1,(hk i x hx).2.later hb⟩⟩
theorem KidsT.other {w w':World} {S:Nat→Prop} {lo g:Nat} {V:Value} {xs:List Tm} (h:KidsT w S lo V xs) (hc:Chg (fun k=>k=g) w w') (hg:g<lo) (hS:¬ S g):KidsT w' S lo V xs:=by
 obtain ⟨cells,q,ho,hk⟩:=h
 refine ⟨cells,q,ownsRow_same ho fun k hk=>hc.block k (own_lt ho k hk) (by have:=own_base ho k hk;omega),fun i x hx=>⟨(hk i x hx).1,(hk i x hx).2.same fun k hs hz=>hc.block k hz (fun e=>by rcases hs with hs | hs;exact hS (e ▸ hs);omega)⟩⟩
theorem KidsT.push {w w1:World} {S:Nat→Prop} {lo:Nat} {V v1:Value} {xs:List Tm} {x:Tm} {p:Pl} {cells:List Value} {q:Nat→Pl} (hS:∀ b,S b→b<lo) (ho:w.ownsRow lo 27 8 V xs.length cells)
  (hk:∀ (i:Nat) (x:Tm),xs[i]?=some x→(∀ (j:Nat) (v:Value),(tmC (q i) x)[j]?=some v→cells[i * 8+j]?=some v)∧TmS w (SetL S lo V) (q i) x)
  (hx:TmS w (SetL S lo V) p x) (ho1:w1.ownsRow lo 27 8 v1 (xs.length+1) (cells ++ tmC p x))
  (hg:w.grownBy w1 V.ownBlock) (hat:v1.ownBlock=V.ownBlock∨∃ b,v1.ownBlock=some b∧w.heap.size≤b):KidsT w1 S lo v1 (xs ++ [x]):=by
 obtain ⟨k1,k2⟩:=setL_keep ho hS hat hg
 have keep:∀ {p:Pl} {y:Tm},TmS w (SetL S lo V) p y→TmS w1 (SetL S lo v1) p y:=by
  intro p y h
  have h1:TmS w (fun b=>SetL S lo V b∧b<w.heap.size) p y:=h.mono fun k hk hz=>⟨hk,hz⟩
  exact (h1.same fun k hs hz=>k2 k hs.1 hz).mono fun k hs _=>k1 k hs.1 hs.2
 have hl:=own_len ho
 refine ⟨_,fun i=>if i=xs.length then p else q i,by simpa using ho1,fun i y hy=>?_⟩
 rcases Nat.lt_or_ge i xs.length with hi | hi
 ·rw [List.getElem?_append_left hi] at hy
  obtain ⟨h1,h2⟩:=hk i y hy
  simp only [if_neg (show ¬ i=xs.length by omega)]
  refine ⟨fun j v hv=>?_,keep h2⟩
  have hj:j<8:=by have:=(List.getElem?_eq_some_iff.1 hv).1;rwa [tmC_len] at this
  rw [List.getElem?_append_left (by omega)]
  exact h1 j v hv
 ·rw [List.getElem?_append_right hi] at hy
  have hi2:i=xs.length:=by
   cases e:i - xs.length with
   | zero=>omega
   | succ j=>rw [e] at hy;simp at hy
  subst hi2
  obtain rfl:x=y:=by simpa using hy
  simp only [↓reduceIte]
  refine ⟨fun j v hv=>?_,keep hx⟩
  rw [List.getElem?_append_right (by omega),show xs.length * 8+j - cells.length=j by omega]
  exact hv
theorem set8 {w:World} {g:Nat} {x0 x1 x2 x3 x4 x5 x6 x7 a0 a1 a2 a3 a4 a5 a6 a7:Value} {t:TypeId} (h:w.heap[g]?=some (.cells #[x0,x1,x2,x3,x4,x5,x6,x7] t (0,0))) :
  ((((((((w.setCell ⟨g,0,none⟩ a0).setCell ⟨g,1,none⟩ a1).setCell ⟨g,2,none⟩ a2).setCell ⟨g,3,none⟩ a3).setCell ⟨g,4,none⟩ a4).setCell ⟨g,5,none⟩ a5).setCell ⟨g,6,none⟩ a6).setCell ⟨g,7,none⟩ a7).heap[g]?=some (.cells #[a0,a1,a2,a3,a4,a5,a6,a7] t (0,0)):=by
 have h0:(w.setCell ⟨g,0,none⟩ a0).heap[g]?=some (.cells #[a0,x1,x2,x3,x4,x5,x6,x7] t (0,0)):=blk_put h 0 a0 rfl
 have h1:((w.setCell ⟨g,0,none⟩ a0).setCell ⟨g,1,none⟩ a1).heap[g]?=some (.cells #[a0,a1,x2,x3,x4,x5,x6,x7] t (0,0)):=blk_put h0 1 a1 rfl
 have h2:(((w.setCell ⟨g,0,none⟩ a0).setCell ⟨g,1,none⟩ a1).setCell ⟨g,2,none⟩ a2).heap[g]?=some (.cells #[a0,a1,a2,x3,x4,x5,x6,x7] t (0,0)):=blk_put h1 2 a2 rfl
 have h3:((((w.setCell ⟨g,0,none⟩ a0).setCell ⟨g,1,none⟩ a1).setCell ⟨g,2,none⟩ a2).setCell ⟨g,3,none⟩ a3).heap[g]?=some (.cells #[a0,a1,a2,a3,x4,x5,x6,x7] t (0,0)):=blk_put h2 3 a3 rfl
 have h4:(((((w.setCell ⟨g,0,none⟩ a0).setCell ⟨g,1,none⟩ a1).setCell ⟨g,2,none⟩ a2).setCell ⟨g,3,none⟩ a3).setCell ⟨g,4,none⟩ a4).heap[g]?=some (.cells #[a0,a1,a2,a3,a4,x5,x6,x7] t (0,0)):=blk_put h3 4 a4 rfl
 have h5:((((((w.setCell ⟨g,0,none⟩ a0).setCell ⟨g,1,none⟩ a1).setCell ⟨g,2,none⟩ a2).setCell ⟨g,3,none⟩ a3).setCell ⟨g,4,none⟩ a4).setCell ⟨g,5,none⟩ a5).heap[g]?=some (.cells #[a0,a1,a2,a3,a4,a5,x6,x7] t (0,0)):=blk_put h4 5 a5 rfl
 have h6:(((((((w.setCell ⟨g,0,none⟩ a0).setCell ⟨g,1,none⟩ a1).setCell ⟨g,2,none⟩ a2).setCell ⟨g,3,none⟩ a3).setCell ⟨g,4,none⟩ a4).setCell ⟨g,5,none⟩ a5).setCell ⟨g,6,none⟩ a6).heap[g]?=some (.cells #[a0,a1,a2,a3,a4,a5,a6,x7] t (0,0)):=blk_put h5 6 a6 rfl
 have h7:((((((((w.setCell ⟨g,0,none⟩ a0).setCell ⟨g,1,none⟩ a1).setCell ⟨g,2,none⟩ a2).setCell ⟨g,3,none⟩ a3).setCell ⟨g,4,none⟩ a4).setCell ⟨g,5,none⟩ a5).setCell ⟨g,6,none⟩ a6).setCell ⟨g,7,none⟩ a7).heap[g]?=some (.cells #[a0,a1,a2,a3,a4,a5,a6,a7] t (0,0)):=blk_put h6 7 a7 rfl
 exact h7
theorem chg_set3' (w:World) (g i j k:Nat) (a b c:Value):Chg (fun k=>k=g) w (((w.setCell ⟨g,i,none⟩ a).setCell ⟨g,j,none⟩ b).setCell ⟨g,k,none⟩ c):=chg_trans (chg_trans (chg_set _ _ _ _) (chg_set _ _ _ _)) (chg_set _ _ _ _)
theorem chg_set8 (w:World) (g:Nat) (a0 a1 a2 a3 a4 a5 a6 a7:Value):Chg (fun k=>k=g) w ((((((((w.setCell ⟨g,0,none⟩ a0).setCell ⟨g,1,none⟩ a1).setCell ⟨g,2,none⟩ a2).setCell ⟨g,3,none⟩ a3).setCell ⟨g,4,none⟩ a4).setCell ⟨g,5,none⟩ a5).setCell ⟨g,6,none⟩ a6).setCell ⟨g,7,none⟩ a7):=
 chg_trans (chg_trans (chg_trans (chg_trans (chg_trans (chg_trans (chg_trans (chg_set _ _ _ _) (chg_set _ _ _ _)) (chg_set _ _ _ _)) (chg_set _ _ _ _)) (chg_set _ _ _ _)) (chg_set _ _ _ _)) (chg_set _ _ _ _)) (chg_set _ _ _ _)
end Go.Proofs.Ytcgkeolgflphiaa

namespace Go.Proofs.Ytcgkeolgflphiaa
open Go.RowKit Go.Proofs.YtcgkeolgflphiaaW.PrintWords Go.RegionInvYtcgkeolgflphiaa

abbrev tmbO (k:Int) (o:TOwn) (p:Pl) (V:Value):Obj:=.cells #[.int .i64 k,.int .i64 o.n,.string o.s,.int .i64 o.lv.kind,.int .i64 o.lv.num,.slice p.A o.lv.kids.length p.c,.slice p.B o.ls.length p.d,V] 27 (0,0)
abbrev tzO (k:Int):Obj:=.cells #[.int .i64 k,.int .i64 0,.string ⟨#[]⟩,.int .i64 0,.int .i64 0,.slice none 0 0,.slice none 0 0,.slice none 0 0] 27 (0,0)
def o0:TOwn:=⟨0,⟨#[]⟩,.mk 0 0 [],[]⟩
structure TmBx (w W:World) (g gO:Nat) (k:Int) (o:TOwn) (p:Pl) (V:Value):Prop where
 out:W.heap[gO]?=some (tmbO k o p V)
 res:W.heap[w.heap.size]?=some (tzO 0)
 chg:Chg (fun k=>k=g) w W
 far:w.heap.size<gO
 glt:g<w.heap.size
 lvs:LvS W (fun b=>gO<b) p.A p.c o.lv
 lss:LvS W (fun b=>gO<b) p.B p.d (.mk 0 0 o.ls)
 fit:Fit o.n o.s o.ls
def TmSt (W:World) (g:Nat) (t:Tm):Except Int (Tm × List Int × Int)→Prop
 | .ok (t',r,n)=>t=t'∧∃ m,RdOk W g r n m
 | .error k=>RdBad W g k
def TmRd (w:World) (g:Nat) (R:Except Int (Tm × List Int × Int)) (e:Ending) (w':World):Prop:=
 ∃ p t,e=.returned (tmV p t)∧TmS w' (fun b=>w.heap.size≤b) p t∧Chg (fun k=>k=g) w w'∧TmSt w' g t R
theorem TmSt.chg {W W':World} {g:Nat} {t:Tm} {R:Except Int (Tm × List Int × Int)} {S:Nat→Prop} (h:TmSt W g t R) (hS:∀ k,S k→g<k) (hc:Chg S W W'):TmSt W' g t R:=by
 cases R with
 | error e=>exact RdBad.chg h hS hc
 | ok y=>exact ⟨h.1,by obtain ⟨m,hm⟩:=h.2;exact ⟨m,hm.chg hS hc⟩⟩
theorem TmBx.reader {w W W':World} {g gO:Nat} {k:Int} {o:TOwn} {p:Pl} {V:Value} (h:TmBx w W g gO k o p V) (hc:Chg (fun k=>k=g) W W'):TmBx w W' g gO k o p V:=by
 have h1:=h.far
 have h2:=h.glt
 exact ⟨(hc.block _ (blk_lt h.out) (by omega)).trans h.out,(hc.block _ (blk_lt h.res) (by omega)).trans h.res,chg_trans h.chg hc,h.far,h.glt,h.lvs.same fun k hk hz=>hc.block k hz (by omega),h.lss.same fun k hk hz=>hc.block k hz (by omega),h.fit⟩
theorem tmBx_new {w w2:World} {g:Nat} {k:Int} (hg:g<w.heap.size) (hc:Chg (fun k=>k=g) (w.alloc (tzO 0)) w2):TmBx w (w2.alloc (tzO k)) g w2.heap.size k o0 ⟨none,0,none,0,none,0⟩ (.slice none 0 0):=by
 have hz:=hc.size
 have hs:(w.alloc (tzO 0)).heap.size=w.heap.size+1:=by simp
 refine ⟨blk_new _ _,blk_alloc ((hc.block _ (by omega) (by omega)).trans (blk_new _ _)) _,chg_trans (Chg.of_below (below_alloc (Below.refl _ _) _)) (chg_trans hc (Chg.of_below (below_alloc (Below.refl _ _) _))),by omega,hg,LvS.leaf0 _ _ _ _,LvS.leaf0 _ _ _ _,⟨by decide,by decide,by decide⟩⟩
theorem TmBx.upd {w W W':World} {g gO:Nat} {k:Int} {o o':TOwn} {p p':Pl} {V V':Value} (h:TmBx w W g gO k o p V) (hc:Chg (fun k=>k=gO) W W') (ho:W'.heap[gO]?=some (tmbO k o' p' V'))
  (hl:LvS W (fun b=>gO<b) p'.A p'.c o'.lv) (hs:LvS W (fun b=>gO<b) p'.B p'.d (.mk 0 0 o'.ls)) (hf:Fit o'.n o'.s o'.ls):TmBx w W' g gO k o' p' V':=by
 have h1:=h.far
 have h2:=h.glt
 refine ⟨ho,(hc.block _ (blk_lt h.res) (by omega)).trans h.res,⟨hc.os.trans h.chg.os,hc.tape.trans h.chg.tape,hc.output.trans h.chg.output,Nat.le_trans h.chg.size hc.size,fun i hi hs=>?_⟩,h1,h2,hl.same fun k hk hz=>hc.block k hz (by omega),hs.same fun k hk hz=>hc.block k hz (by omega),hf⟩
 rw [hc.block i (Nat.lt_of_lt_of_le hi h.chg.size) (by omega),h.chg.block i hi hs]
theorem rowLv_level {w:World} {lo:Nat} {V:Value} {xs:List Lv} (h:RowG eLv w lo V xs):∃ A c,V=.slice A xs.length c∧LvS w (fun b=>lo≤b) A c (.mk 0 0 xs):=by
 obtain ⟨cs,q,ho,hk⟩:=h
 obtain ⟨A,c,rfl⟩:=own_slice ho
 refine ⟨A,c,rfl,.mk (fun i=>(q i).1) (fun i=>(q i).2) (own_cap ho) (own_max ho) (fun i x hx=>?_) (fun i x hx=>LvS.mono (hk i x hx).2 fun b hb _=>hb.1)⟩
 have hi:i<xs.length:=by
  rcases Nat.lt_or_ge i xs.length with h | h
  ·exact h
  ·rw [List.getElem?_eq_none h] at hx;cases hx
 obtain ⟨g,cap,hv,hb,_⟩:=ho.form (by omega)
 have h1:=(hk i x hx).1
 have hv':=hv
 injection hv with hA
 exact ⟨⟨g,0,none⟩,hA,hb,rfl,ho.cells (g:=g) (by rw [hv'];rfl) _ _ (h1 0 _ rfl),ho.cells (g:=g) (by rw [hv'];rfl) _ _ (h1 1 _ rfl),ho.cells (g:=g) (by rw [hv'];rfl) _ _ (h1 2 _ rfl)⟩
theorem rowTm_term {w:World} {lo:Nat} {V:Value} {xs:List Tm} (h:RowG eTm w lo V xs):∃ K e,V=.slice K xs.length e∧∀ (k:Int) (o:TOwn) (p:Pl),LvS w (fun b=>lo≤b) p.A p.c o.lv→LvS w (fun b=>lo≤b) p.B p.d (.mk 0 0 o.ls)→Fit o.n o.s o.ls→TmS w (fun b=>lo≤b) ⟨p.A,p.c,p.B,p.d,K,e⟩ (.mk k o.n o.s o.lv o.ls xs):=by
 obtain ⟨cs,q,ho,hk⟩:=h
 obtain ⟨K,e,rfl⟩:=own_slice ho
 refine ⟨K,e,rfl,fun k o p hl hs hf=>.mk q hl hs (own_cap ho) (own_max ho) hf (fun i x hx=>?_) (fun i x hx=>TmS.mono (hk i x hx).2 fun b hb _=>hb.1)⟩
 have hi:i<xs.length:=by
  rcases Nat.lt_or_ge i xs.length with h | h
  ·exact h
  ·rw [List.getElem?_eq_none h] at hx;cases hx
 obtain ⟨g,cap,hv,hb,_⟩:=ho.form (by omega)
 have hv':=hv
 injection hv with hA
 refine ⟨g,0,hA,hb,fun j v hjv=>?_⟩
 have:=ho.cells (g:=g) (by rw [hv'];rfl) _ _ ((hk i x hx).1 j v hjv)
 rwa [show (⟨g,0,none⟩:Addr).add (i * eTm.sz+j)=⟨g,0+(i * 8+j),none⟩ from add_flat g 0 _,← Nat.add_assoc] at this
theorem tmRd_fin {w W:World} {g gO:Nat} {k:Int} {o:TOwn} {p:Pl} {K:Option Addr} {L e:Nat} {l:List Tm} {R:Except Int (Tm × List Int × Int)} (hb:TmBx w W g gO k o p (.slice K L e)) (hL:L=l.length) (hl:RowG eTm W (gO+1) (.slice K L e) l) (hR:TmSt W g (.mk k o.n o.s o.lv o.ls l) R) (W':World) (hch:Chg (fun k=>k=w.heap.size) W W') :
  TmRd w g R (.returned (.agg #[.int .i64 k,.int .i64 o.n,.string o.s,.int .i64 o.lv.kind,.int .i64 o.lv.num,.slice p.A o.lv.kids.length p.c,.slice p.B o.ls.length p.d,.slice K L e])) W':=by
 subst hL
 have hfar:=hb.far
 have hglt:=hb.glt
 have hz:=hb.chg.size
 obtain ⟨K2,e2,he,ht⟩:=rowTm_term hl
 injection he with e1 _ e3
 subst e1;subst e3
 have ht2:=ht k o p (hb.lvs.mono fun b hb _=>hb) (hb.lss.mono fun b hb _=>hb) hb.fit
 refine ⟨⟨p.A,p.c,p.B,p.d,K,e⟩,_,rfl,(ht2.same fun b hb' hz=>hch.block b hz (by omega)).mono fun b hb' _=>by omega,?_,?_⟩
 ·refine ⟨hch.os.trans hb.chg.os,hch.tape.trans hb.chg.tape,hch.output.trans hb.chg.output,Nat.le_trans hb.chg.size hch.size,fun i hi hs=>?_⟩
  rw [hch.block i (Nat.lt_of_lt_of_le hi hb.chg.size) (by omega),hb.chg.block i hi hs]
 ·exact hR.chg (S:=fun k=>k=w.heap.size) (fun k e=>by omega) hch
theorem tmRd_fin0 {w W:World} {g gO:Nat} {k e:Int} {p:Pl} (hp:p=⟨none,0,none,0,none,0⟩) (hb:TmBx w W g gO k o0 p (.slice none 0 0)) (hR:RdBad W g e) (W':World) (hch:Chg (fun k=>k=w.heap.size) W W') :
  TmRd w g (.error e) (.returned (.agg #[.int .i64 k,.int .i64 0,.string ⟨#[]⟩,.int .i64 0,.int .i64 0,.slice none 0 0,.slice none 0 0,.slice none 0 0])) W':=by
 subst hp
 exact tmRd_fin (R:=.error e) (l:=[]) hb rfl (RowG.nil _ _ _) hR W' hch
theorem row8t {w:World} {g:Nat} {v0 v1 v2 v3 v4 v5 v6 v7:Value} {t:TypeId} (h:w.heap[g]?=some (.cells #[v0,v1,v2,v3,v4,v5,v6,v7] t (0,0))) :
  (w.cell? ⟨g,0,none⟩=some v0∧w.cell? ⟨g,1,none⟩=some v1∧w.cell? ⟨g,2,none⟩=some v2∧w.cell? ⟨g,3,none⟩=some v3∧w.cell? ⟨g,4,none⟩=some v4∧w.cell? ⟨g,5,none⟩=some v5∧w.cell? ⟨g,6,none⟩=some v6∧w.cell? ⟨g,7,none⟩=some v7) ∧
  (w.frozen? ⟨g,0,none⟩=false∧w.frozen? ⟨g,1,none⟩=false∧w.frozen? ⟨g,2,none⟩=false∧w.frozen? ⟨g,3,none⟩=false∧w.frozen? ⟨g,4,none⟩=false∧w.frozen? ⟨g,5,none⟩=false∧w.frozen? ⟨g,6,none⟩=false∧w.frozen? ⟨g,7,none⟩=false):=by
 refine ⟨⟨?_,?_,?_,?_,?_,?_,?_,?_⟩,blk_frozen h 0,blk_frozen h 1,blk_frozen h 2,blk_frozen h 3,blk_frozen h 4,blk_frozen h 5,blk_frozen h 6,blk_frozen h 7⟩ <;> (rw [cell_of_row _ _ _ _ _ _ h];rfl)
end Go.Proofs.Ytcgkeolgflphiaa

namespace Go.Proofs.Ytcgkeolgflphiaa
open Go.RowKit Go.Proofs.YtcgkeolgflphiaaW.PrintWords Go.RegionInvYtcgkeolgflphiaa

set_option maxHeartbeats 4000000 in
theorem term_bad (g:Nat) (d er:Int) (w:World) (hk0:∀ W,Below w.heap.size w W→Calls Try.prog 86 #[.pointer (some ⟨g,0,none⟩),.int .i64 7] W fun e w'=>e=.returned (.int .i64 0)∧Chg (fun k=>k=g) W w'∧RdBad w' g er) (hgl:g<w.heap.size) (he:er≠0) :
  Calls Try.prog 107 #[.pointer (some ⟨g,0,none⟩),.int .i64 d] w (TmRd w g (.error er)):=by
 have HE:=Ak he
 have HK:=Ak hk0
 have HGL:=Ak hgl
 clear hk0 hgl he
 go_enter Try.func107,Try.ntmps107
 go_upto_region 2 with (go_at_call 86;go_must (refine (HK.out _ (below_alloc (Below.refl _ _) _)).mono ?_;rintro e w2 ⟨rfl,hc,hbad⟩;have HBX:=Ak (tmBx_new (k:=0) HGL.out hc);have HBAD:=Ak (RdBad.below hbad (below_alloc (Below.refl _ _) (tzO 0)));clear hc hbad))
 obtain ⟨gO,hgO⟩:∃ gO,gO=w2.heap.size:=⟨_,rfl⟩
 rw [← hgO] at HBX ⊢
 obtain ⟨W3,hW3⟩:∃ W3,W3=w2.alloc (tzO 0):=⟨_,rfl⟩
 rw [← hW3] at HBX HBAD ⊢
 clear hW3 hgO
 obtain ⟨A3,n3,c3',N3,m3,hg3⟩:=HBAD.out
 obtain ⟨c0,c1,c2,c3,z0,z1,z2,z3⟩:=row4 hg3
 have HG3:=Ak hg3
 clear hg3
 go_upto_region 3 with (fail)
 obtain ⟨mm,hmm⟩:∃ mm,mm=wrap64 (N3+1):=⟨_,rfl⟩
 rw [← hmm]
 clear c0 c1 c2 c3 z0 z1 z2 z3 hmm
 have HG4:=Ak (rd4_1 (x:=.int .i64 mm) HG3.out)
 have HB4:=Ak (HBX.out.reader (chg_set W3 g 1 (.int .i64 mm)))
 obtain ⟨W4,hW4⟩:∃ W4,W4=W3.setCell ⟨g,1,none⟩ (.int .i64 mm):=⟨_,rfl⟩
 rw [← hW4] at HG4 HB4 ⊢
 clear hW4 HBX HG3 HBAD
 obtain ⟨c0,c1,c2,c3,z0,z1,z2,z3⟩:=row4 HG4.out
 obtain ⟨⟨d0,d1,d2,d3,d4,d5,d6,d7⟩,-⟩:=row8t HB4.out.out
 obtain ⟨⟨e0,e1,e2,e3,e4,e5,e6,e7⟩,x0,x1,x2,x3,x4,x5,x6,x7⟩:=row8t HB4.out.res
 by_cases hd:64<d
 ·have hd':decide (64<d)=true:=decide_eq_true hd
  clear hd
  go_wp2_with (go_at_call 104;go_must (refine (fail_bad g A3 n3 c3' mm m3 er 2 _ _ HG4.out HE.out).mono ?_;rintro e w' ⟨rfl,hw⟩;subst hw))
  refine bodyPost_ret (results_c rfl _ _ w.heap.size 27 #[.int .i64 0,.int .i64 0,.string ⟨#[]⟩,.int .i64 0,.int .i64 0,.slice none 0 0,.slice none 0 0,.slice none 0 0] (0,0) _ rfl (set8 HB4.out.res) Try.underlying27 rfl (by kernel_rfl)) rfl ?_
  exact tmRd_fin0 rfl HB4.out ⟨_,_,_,_,_,HG4.out⟩ _ (chg_set8 _ _ _ _ _ _ _ _ _ _)
 ·have hd':decide (64<d)=false:=decide_eq_false hd
  clear hd
  go_wp2_with (go_at_call 104;go_must (refine (fail_bad g A3 n3 c3' mm m3 er 2 _ _ HG4.out HE.out).mono ?_;rintro e w' ⟨rfl,hw⟩;subst hw))
  refine bodyPost_ret (results_c rfl _ _ w.heap.size 27 #[.int .i64 0,.int .i64 0,.string ⟨#[]⟩,.int .i64 0,.int .i64 0,.slice none 0 0,.slice none 0 0,.slice none 0 0] (0,0) _ rfl (set8 HB4.out.res) Try.underlying27 rfl (by kernel_rfl)) rfl ?_
  exact tmRd_fin0 rfl HB4.out ⟨_,_,_,_,_,HG4.out⟩ _ (chg_set8 _ _ _ _ _ _ _ _ _ _)
set_option maxHeartbeats 4000000 in
theorem term_deep (g:Nat) (xs r:List Int) (N m d k:Int) (w:World) (h:RdOk w g xs N m) (hK:kindR 7 xs=.ok (k,r)) (hm0:0≤N) (hm1:N≤400) (hd:64<d∨400<N+1) :
  Calls Try.prog 107 #[.pointer (some ⟨g,0,none⟩),.int .i64 d] w (TmRd w g (.error 2)):=by
 have HK:=Ak hK
 have HR:=Ak h
 have HGL:=Ak h.lt
 have HD:=Ak hd
 clear h hK hd
 go_enter Try.func107,Try.ntmps107
 go_upto_region 2 with (go_at_call 86;go_must (refine (kind_calls g xs N m 7 _ (HR.out.below (below_alloc (Below.refl _ _) _)) (by decide) (by decide)).mono ?_;rintro e w2 ⟨hc,hm⟩;rw [HK.out] at hm;obtain ⟨rfl,hok⟩:=hm;have HBX:=Ak (tmBx_new (k:=k) HGL.out hc);have HOK:=Ak (RdOk.below hok (below_alloc (Below.refl _ _) (tzO k)));clear hc hok))
 obtain ⟨gO,hgO⟩:∃ gO,gO=w2.heap.size:=⟨_,rfl⟩
 rw [← hgO] at HBX ⊢
 obtain ⟨W3,hW3⟩:∃ W3,W3=w2.alloc (tzO k):=⟨_,rfl⟩
 rw [← hW3] at HBX HOK ⊢
 clear hW3 hgO
 obtain ⟨A3,n3,c3',hg3,-⟩:=HOK.out
 obtain ⟨c0,c1,c2,c3,z0,z1,z2,z3⟩:=row4 hg3
 have HG3:=Ak hg3
 clear hg3
 go_upto_region 3 with (fail)
 obtain ⟨mm,hmm⟩:∃ mm,mm=N+1:=⟨_,rfl⟩
 rw [← hmm]
 rw [← hmm] at HD
 clear c0 c1 c2 c3 z0 z1 z2 z3 hmm
 have HG4:=Ak (rd4_1 (x:=.int .i64 mm) HG3.out)
 have HB4:=Ak (HBX.out.reader (chg_set W3 g 1 (.int .i64 mm)))
 obtain ⟨W4,hW4⟩:∃ W4,W4=W3.setCell ⟨g,1,none⟩ (.int .i64 mm):=⟨_,rfl⟩
 rw [← hW4] at HG4 HB4 ⊢
 clear hW4 HBX HG3 HOK
 obtain ⟨c0,c1,c2,c3,z0,z1,z2,z3⟩:=row4 HG4.out
 have HB5:=Ak (HB4.out.reader (chg_set W4 g 3 (.int .i64 2)))
 have hbool:(64<d∧decide (64<d)=true)∨(¬ 64<d∧decide (64<d)=false∧decide (400<mm)=true):=by
  by_cases h:64<d
  ·exact .inl ⟨h,decide_eq_true h⟩
  ·exact .inr ⟨h,decide_eq_false h,decide_eq_true (HD.out.resolve_left h)⟩
 rcases hbool with ⟨-,hd'⟩ | ⟨-,hd',hm'⟩
 ·go_upto_region 4 with (go_at_call 104;go_must (refine (fail_yes g A3 n3 c3' mm m 2 _ HG4.out (by decide)).mono ?_;rintro e w' ⟨rfl,hw⟩;subst hw))
  clear c0 c1 c2 c3 z0 z1 z2 z3
  have HG5:=Ak (rd4_3 (x:=.int .i64 2) HG4.out)
  obtain ⟨W5,hW5⟩:∃ W5,W5=W4.setCell ⟨g,3,none⟩ (.int .i64 2):=⟨_,rfl⟩
  rw [← hW5] at HG5 HB5 ⊢
  clear hW5
  obtain ⟨⟨d0,d1,d2,d3,d4,d5,d6,d7⟩,-⟩:=row8t HB5.out.out
  obtain ⟨⟨e0,e1,e2,e3,e4,e5,e6,e7⟩,x0,x1,x2,x3,x4,x5,x6,x7⟩:=row8t HB5.out.res
  go_wp2
  refine bodyPost_ret (results_c rfl _ _ w.heap.size 27 #[.int .i64 k,.int .i64 0,.string ⟨#[]⟩,.int .i64 0,.int .i64 0,.slice none 0 0,.slice none 0 0,.slice none 0 0] (0,0) _ rfl (set8 HB5.out.res) Try.underlying27 rfl (by kernel_rfl)) rfl ?_
  exact tmRd_fin0 rfl HB5.out ⟨_,_,_,_,_,HG5.out⟩ _ (chg_set8 _ _ _ _ _ _ _ _ _ _)
 ·go_upto_region 4 with (go_at_call 104;go_must (refine (fail_yes g A3 n3 c3' mm m 2 _ HG4.out (by decide)).mono ?_;rintro e w' ⟨rfl,hw⟩;subst hw))
  clear c0 c1 c2 c3 z0 z1 z2 z3
  have HG5:=Ak (rd4_3 (x:=.int .i64 2) HG4.out)
  obtain ⟨W5,hW5⟩:∃ W5,W5=W4.setCell ⟨g,3,none⟩ (.int .i64 2):=⟨_,rfl⟩
  rw [← hW5] at HG5 HB5 ⊢
  clear hW5
  obtain ⟨⟨d0,d1,d2,d3,d4,d5,d6,d7⟩,-⟩:=row8t HB5.out.out
  obtain ⟨⟨e0,e1,e2,e3,e4,e5,e6,e7⟩,x0,x1,x2,x3,x4,x5,x6,x7⟩:=row8t HB5.out.res
  go_wp2
  refine bodyPost_ret (results_c rfl _ _ w.heap.size 27 #[.int .i64 k,.int .i64 0,.string ⟨#[]⟩,.int .i64 0,.int .i64 0,.slice none 0 0,.slice none 0 0,.slice none 0 0] (0,0) _ rfl (set8 HB5.out.res) Try.underlying27 rfl (by kernel_rfl)) rfl ?_
  exact tmRd_fin0 rfl HB5.out ⟨_,_,_,_,_,HG5.out⟩ _ (chg_set8 _ _ _ _ _ _ _ _ _ _)
end Go.Proofs.Ytcgkeolgflphiaa

namespace Go.Proofs.Ytcgkeolgflphiaa
open Go.RowKit Go.Proofs.YtcgkeolgflphiaaW.PrintWords Go.RegionInvYtcgkeolgflphiaa

def OwnSt (W:World) (g:Nat) (N:Int) (o:TOwn):Except Int (TOwn × List Int)→Prop
 | .ok (o',r)=>o=o'∧∃ m,RdOk W g r N m
 | .error e=>RdBad W g e
theorem OwnSt.chg {W W':World} {g:Nat} {N:Int} {o:TOwn} {R:Except Int (TOwn × List Int)} {S:Nat→Prop} (h:OwnSt W g N o R) (hS:∀ k,S k→g<k) (hc:Chg S W W'):OwnSt W' g N o R:=by
 cases R with
 | error e=>exact RdBad.chg h hS hc
 | ok y=>exact ⟨h.1,by obtain ⟨m,hm⟩:=h.2;exact ⟨m,hm.chg hS hc⟩⟩
theorem fit_n {n:Int} (h:0≤n∧n≤1048576):Fit n ⟨#[]⟩ []:=⟨by omega,by decide,by decide⟩
theorem fit_s {s:ByteArray} {ls:List Lv} (h:s.size≤140737488355328) (hl:ls.length≤6):Fit 0 s ls:=⟨by decide,h,by omega⟩
abbrev pl0:Pl:=⟨none,0,none,0,none,0⟩
theorem own_num {w w6:World} {g gO:Nat} {N m nn:Int} {r:List Int} (hB:Bytes r) (hb:TmBx w w6 g gO 1 o0 pl0 (.slice none 0 0)) (hnn:nn=okNum (numR r)) (hst:NumSt w6 g N m (numR r)) :
  ∃ o p,Aside0 (TmBx w (w6.setCell ⟨gO,1,none⟩ (.int .i64 nn)) g gO 1 o p (.slice none 0 0))∧Aside0 (OwnSt (w6.setCell ⟨gO,1,none⟩ (.int .i64 nn)) g N o (tmOwn 1 r))∧Aside0 (0<tmKids 1→o=o0∧p=pl0):=by
 have hf:=okNum_fit hB
 have h1:=hb.far
 have h2:=hb.glt
 refine ⟨⟨nn,⟨#[]⟩,.mk 0 0 [],[]⟩,pl0,⟨hb.upd (chg_set _ _ _ _) (blk_put hb.out 1 _ rfl) (LvS.leaf0 _ _ _ _) (LvS.leaf0 _ _ _ _) (fit_n (by rw [hnn];exact hf))⟩,⟨?_⟩,⟨fun h=>absurd h (by decide)⟩⟩
 have hst':=hst.chg (S:=fun k=>k=gO) (fun k e=>by omega) (chg_set w6 gO 1 (.int .i64 nn))
 unfold tmOwn
 rw [if_pos rfl]
 cases hn:numR r with
 | error e=>rw [hn] at hst';exact hst'
 | ok x=>rw [hn] at hst' hnn;exact ⟨by rw [hnn];rfl,m,hst'⟩
theorem own_lv {w w6:World} {g gO B c:Nat} {N:Int} {r:List Int} {A:Option Addr} {l:Lv} (hb:TmBx w w6 g gO 2 o0 pl0 (.slice none 0 0)) (hl:LvS w6 (fun b=>B≤b) A c l) (hB:gO<B) (hst:RdSt w6 g N l (lvR 32 r 0)) :
  ∃ o p,Aside0 (TmBx w (((w6.setCell ⟨gO,3,none⟩ (.int .i64 l.kind)).setCell ⟨gO,4,none⟩ (.int .i64 l.num)).setCell ⟨gO,5,none⟩ (.slice A l.kids.length c)) g gO 2 o p (.slice none 0 0))∧Aside0 (OwnSt (((w6.setCell ⟨gO,3,none⟩ (.int .i64 l.kind)).setCell ⟨gO,4,none⟩ (.int .i64 l.num)).setCell ⟨gO,5,none⟩ (.slice A l.kids.length c)) g N o (tmOwn 2 r))∧Aside0 (0<tmKids 2→o=o0∧p=pl0):=by
 have h1:=hb.far
 have h2:=hb.glt
 refine ⟨⟨0,⟨#[]⟩,l,[]⟩,⟨A,c,none,0,none,0⟩,⟨hb.upd (chg_set3' _ _ _ _ _ _ _ _) (blk_put (blk_put (blk_put hb.out 3 _ rfl) 4 _ rfl) 5 _ rfl) (hl.mono fun b hb _=>by omega) (LvS.leaf0 _ _ _ _) (fit_n (n:=0) (by decide))⟩,⟨?_⟩,⟨fun h=>absurd h (by decide)⟩⟩
 have hst':=hst.chg (S:=fun k=>k=gO) (fun k e=>by omega) (chg_set3' w6 gO 3 4 5 (.int .i64 l.kind) (.int .i64 l.num) (.slice A l.kids.length c))
 unfold tmOwn
 rw [if_neg (by decide),if_pos rfl]
 unfold lev1
 cases hn:lvR 32 r 0 with
 | error e=>rw [hn] at hst';exact hst'
 | ok x=>rw [hn] at hst';exact ⟨by rw [hst'.1],_,hst'.2⟩
theorem TmBx.named {w w6:World} {g gO:Nat} {s:ByteArray} (hb:TmBx w w6 g gO 7 o0 pl0 (.slice none 0 0)) (hs:s.size≤140737488355328):TmBx w (w6.setCell ⟨gO,2,none⟩ (.string s)) g gO 7 ⟨0,s,.mk 0 0 [],[]⟩ pl0 (.slice none 0 0):=
 hb.upd (chg_set _ _ _ _) (blk_put hb.out 2 _ rfl) (LvS.leaf0 _ _ _ _) (LvS.leaf0 _ _ _ _) (fit_s (ls:=[]) hs (by decide))
theorem NameSt.chg {W W':World} {g:Nat} {N m:Int} {s:ByteArray} {R:Except Int (ByteArray × List Int)} {S:Nat→Prop} (h:NameSt W g N m s R) (hS:∀ k,S k→g<k) (hc:Chg S W W'):NameSt W' g N m s R:=by
 cases R with
 | error e=>exact RdBad.chg h hS hc
 | ok y=>exact ⟨h.1,RdOk.chg h.2 hS hc⟩
theorem own_const {w w6:World} {g gO lo d:Nat} {N m:Int} {r r0:List Int} {s s':ByteArray} {B:Option Addr} {l:List Lv} {k:Int} (hk:k=7) (hb:TmBx w w6 g gO k ⟨0,s,.mk 0 0 [],[]⟩ pl0 (.slice none 0 0)) (hn:nameR r=.ok (s',r0)) (hs:s=s') (hl:LvS w6 (fun b=>lo≤b) B d (.mk 0 0 l)) (hB:gO<lo) (hst:ListSt w6 g N m l (listR 6 lev1 r0)) :
  ∃ o p,Aside0 (TmBx w (w6.setCell ⟨gO,6,none⟩ (.slice B l.length d)) g gO k o p (.slice none 0 0))∧Aside0 (OwnSt (w6.setCell ⟨gO,6,none⟩ (.slice B l.length d)) g N o (tmOwn k r))∧Aside0 (0<tmKids k→o=o0∧p=pl0):=by
 subst hk
 have h1:=hb.far
 have h2:=hb.glt
 have hlen:l.length≤6:=by
  cases hR:listR 6 lev1 r0 with
  | error e=>rw [hR] at hst;rw [hst.1];decide
  | ok x=>rw [hR] at hst;rw [hst.1];have:=list_len hR (by decide);omega
 refine ⟨⟨0,s,.mk 0 0 [],l⟩,⟨none,0,B,d,none,0⟩,⟨hb.upd (chg_set _ _ _ _) (blk_put hb.out 6 _ rfl) (LvS.leaf0 _ _ _ _) (hl.mono fun b hb _=>by omega) (fit_s hb.fit.2.1 hlen)⟩,⟨?_⟩,⟨fun h=>absurd h (by decide)⟩⟩
 unfold tmOwn
 rw [if_neg (by decide),if_neg (by decide),if_pos rfl,hn]
 simp only []
 cases hR:listR 6 lev1 r0 with
 | error e =>
  rw [hR] at hst
  exact RdBad.chg (S:=fun k=>k=gO) hst.2 (fun k e=>by omega) (chg_set _ _ _ _)
 | ok x =>
  rw [hR] at hst
  exact ⟨by rw [hst.1,hs],m,RdOk.chg (S:=fun k=>k=gO) hst.2 (fun k e=>by omega) (chg_set _ _ _ _)⟩
theorem own_const_bad {w w6:World} {g gO:Nat} {N er:Int} {r:List Int} {s:ByteArray} {k:Int} (hk:k=7) (hb:TmBx w w6 g gO k ⟨0,s,.mk 0 0 [],[]⟩ pl0 (.slice none 0 0)) (hn:nameR r=.error er) (hst:RdBad w6 g er) :
  ∃ o p,Aside0 (TmBx w (w6.setCell ⟨gO,6,none⟩ (.slice none 0 0)) g gO k o p (.slice none 0 0))∧Aside0 (OwnSt (w6.setCell ⟨gO,6,none⟩ (.slice none 0 0)) g N o (tmOwn k r))∧Aside0 (0<tmKids k→o=o0∧p=pl0):=by
 subst hk
 have h1:=hb.far
 have h2:=hb.glt
 refine ⟨⟨0,s,.mk 0 0 [],[]⟩,pl0,⟨hb.upd (chg_set _ _ _ _) (blk_put hb.out 6 _ rfl) (LvS.leaf0 _ _ _ _) (LvS.leaf0 _ _ _ _) hb.fit⟩,⟨?_⟩,⟨fun h=>absurd h (by decide)⟩⟩
 unfold tmOwn
 rw [if_neg (by decide),if_neg (by decide),if_pos rfl,hn]
 exact RdBad.chg (S:=fun k=>k=gO) hst (fun k e=>by omega) (chg_set _ _ _ _)
theorem own_none {w w6:World} {g gO:Nat} {N m k:Int} {r:List Int} (h1:k≠1) (h2:k≠2) (h7:k≠7) (hb:TmBx w w6 g gO k o0 pl0 (.slice none 0 0)) (hst:RdOk w6 g r N m) :
  ∃ o p,Aside0 (TmBx w w6 g gO k o p (.slice none 0 0))∧Aside0 (OwnSt w6 g N o (tmOwn k r))∧Aside0 (0<tmKids k→o=o0∧p=pl0):=by
 refine ⟨o0,pl0,⟨hb⟩,⟨?_⟩,⟨fun _=>⟨rfl,rfl⟩⟩⟩
 unfold tmOwn
 rw [if_neg h1,if_neg h2,if_neg h7]
 exact ⟨rfl,m,hst⟩
def TmLs (W:World) (g:Nat) (R:Except Int (List Tm × List Int × Int)) (l:List Tm):Prop:=match R with
 | .ok (l',r,_)=>l=l'∧∃ N m,RdOk W g r N m
 | .error e=>RdBad W g e
def TmLt (W:World) (g:Nat) (l:List Tm):Except Int (List Tm × List Int × Int)→Prop
 | .ok (l',r,N)=>l=l'∧∃ m,RdOk W g r N m
 | .error e=>RdBad W g e
theorem TmLt.chg {W W':World} {g:Nat} {l:List Tm} {R:Except Int (List Tm × List Int × Int)} {S:Nat→Prop} (h:TmLt W g l R) (hS:∀ k,S k→g<k) (hc:Chg S W W'):TmLt W' g l R:=by
 cases R with
 | error e=>exact RdBad.chg h hS hc
 | ok y=>exact ⟨h.1,by obtain ⟨m,hm⟩:=h.2;exact ⟨m,hm.chg hS hc⟩⟩
structure TmLoop (w W:World) (g gO:Nat) (k:Int) (o:TOwn) (p:Pl) (V:Value) (l:List Tm) (R:Except Int (List Tm × List Int × Int)) (j:Nat):Prop where
 bx:TmBx w W g gO k o p V
 kids:RowG eTm W (gO+1) V l
 st:TmLt W g l R
 len:l.length≤j
theorem tmLoop_start {w W:World} {g gO f:Nat} {k N:Int} {o:TOwn} {p:Pl} {R0:Except Int (TOwn × List Int)} (hb:TmBx w W g gO k o p (.slice none 0 0)) (h:OwnSt W g N o R0):TmLoop w W g gO k o p (.slice none 0 0) [] (tmPre f R0 N 0) 0:=by
 refine ⟨hb,RowG.nil _ _ _,?_,Nat.le_refl _⟩
 cases R0 with
 | error er=>exact h
 | ok x=>exact ⟨rfl,h.2⟩
theorem tmLoop_next {w5:World} {g f j:Nat} {m m1:Int} {R0:Except Int (TOwn × List Int)} {l:List Tm} {t:Tm} {r:List Int} (h:tmPre f R0 m j=.ok (l,r,m1)) (hp:TmSt w5 g t (tmR f r m1)):TmLt w5 g (l ++ [t]) (tmPre f R0 m (j+1)):=by
 rw [tmPre_ok h]
 cases hl:tmR f r m1 with
 | error e=>rw [hl] at hp;exact hp
 | ok x=>rw [hl] at hp;exact ⟨by rw [hp.1],hp.2⟩
theorem tmLoop_same {w W:World} {g gO f j:Nat} {k m e:Int} {o:TOwn} {p:Pl} {V:Value} {l:List Tm} {R0:Except Int (TOwn × List Int)} (h:TmLoop w W g gO k o p V l (tmPre f R0 m j) j) (he:tmPre f R0 m j=.error e):TmLoop w W g gO k o p V l (tmPre f R0 m (j+1)) (j+1):=
 ⟨h.bx,h.kids,by rw [tmPre_err he];have:=h.st;rw [he] at this;exact this,Nat.le_succ_of_le h.len⟩
theorem tmLoop_end {w W W':World} {g gO f:Nat} {k m:Int} {o:TOwn} {p:Pl} {K:Option Addr} {L e:Nat} {l:List Tm} {xs r:List Int} {j:Nat} (hK:kindR 7 xs=.ok (k,r)) (hm:m<400) (hj:j=tmKids k)
  (h:TmLoop w W g gO k o p (.slice K L e) l (tmPre f (tmOwn k r) (m+1) j) j) (hL:L=l.length) (ho:∀ o' r',tmOwn k r=.ok (o',r')→o=o') (hch:Chg (fun k=>k=w.heap.size) W W') :
  TmRd w g (tmR (f+1) xs m) (.returned (.agg #[.int .i64 k,.int .i64 o.n,.string o.s,.int .i64 o.lv.kind,.int .i64 o.lv.num,.slice p.A o.lv.kids.length p.c,.slice p.B o.ls.length p.d,.slice K L e])) W':=by
 subst hj
 refine tmRd_fin h.bx hL h.kids ?_ W' hch
 rw [tmR_pre hK hm]
 have hs:=h.st
 cases hp:tmPre f (tmOwn k r) (m+1) (tmKids k) with
 | error e=>rw [hp] at hs;exact hs
 | ok x =>
  obtain ⟨l',r1,m1⟩:=x
  rw [hp] at hs
  cases hr:tmOwn k r with
  | error e=>rw [hr] at hp;cases hp
  | ok y =>
   obtain ⟨o',r'⟩:=y
   have:=ho o' r' hr
   exact ⟨by rw [hs.1,this],hs.2⟩
structure TIn (w W:World) (g gO:Nat) (k:Int) (o:TOwn) (p:Pl) (V:Value) (xs:List Tm) (q:Pl) (x:Tm):Prop where
 bx:TmBx w W g gO k o p V
 kids:RowG eTm W (gO+1) V xs
 kid:TmS W (fun b=>gO+1≤b∧V.ownBlock≠some b) q x
 size:gO+1≤W.heap.size
theorem tin_in {w wr W3 w5:World} {g gO:Nat} {k:Int} {o:TOwn} {p:Pl} {V:Value} {xs:List Tm} {q:Pl} {x:Tm} (hb:TmBx w wr g gO k o p V) (hk:RowG eTm wr (gO+1) V xs) (h3:Below wr.heap.size wr W3) (h5:Chg (fun k=>k=g) W3 w5) (hl:TmS w5 (fun b=>W3.heap.size≤b) q x):TIn w w5 g gO k o p V xs q x:=by
 have hbb:Chg (fun k=>k=g) wr w5:=chg_trans (Chg.of_below h3) h5
 have hlt:=blk_lt hb.out
 have hfar:=hb.far
 have hglt:=hb.glt
 refine ⟨hb.reader hbb,hk.keep hbb (fun k e=>by omega),hl.mono fun b hb' _=>⟨by have:=h3.size;omega,fun e=>?_⟩,by have:=hbb.size;omega⟩
 obtain ⟨cells,q,hown,_⟩:=hk
 have:=own_lt hown b e
 have:=h3.size
 omega
theorem TmBx.below {w W W':World} {g gO:Nat} {k:Int} {o:TOwn} {p:Pl} {V:Value} (h:TmBx w W g gO k o p V) (hb:Below W.heap.size W W'):TmBx w W' g gO k o p V:=h.reader (Chg.of_below hb)
theorem TIn.drew {w W:World} {g gO:Nat} {k:Int} {o:TOwn} {p:Pl} {V:Value} {xs:List Tm} {q:Pl} {x:Tm} (h:TIn w W g gO k o p V xs q x):TIn w W.drew g gO k o p V xs q x:=
 ⟨h.bx.below (below_drew (Below.refl _ _)),h.kids.later (below_drew (Below.refl _ _)),h.kid.later (below_drew (Below.refl _ _)),h.size⟩
theorem TIn.cell {w W:World} {g gO:Nat} {k:Int} {o:TOwn} {p:Pl} {V:Value} {xs:List Tm} {q:Pl} {x:Tm} (h:TIn w W g gO k o p V xs q x):W.cell? ⟨gO,7,none⟩=some V:=by
 rw [cell_of_row _ _ _ _ _ _ h.bx.out];rfl
theorem TIn.cell2 {w W:World} {g gO:Nat} {k:Int} {o:TOwn} {p:Pl} {V:Value} {xs:List Tm} {q:Pl} {x:Tm} (h:TIn w W g gO k o p V xs q x) (ob:Obj):(W.alloc ob).cell? ⟨gO,7,none⟩=some V:=by
 rw [cell_of_row _ _ _ _ _ _ (blk_alloc h.bx.out ob)];rfl
structure TOut (w W5 W:World) (g gO:Nat) (k:Int) (o:TOwn) (p:Pl) (V V6:Value) (xs:List Tm):Prop where
 bx:TmBx w W g gO k o p V
 kids:RowG eTm W (gO+1) V6 xs
 chg:Chg (fun k=>g<k) W5 W
theorem TOut.cell {w W5 W:World} {g gO:Nat} {k:Int} {o:TOwn} {p:Pl} {V V6:Value} {xs:List Tm} (h:TOut w W5 W g gO k o p V V6 xs):W.cell? ⟨gO,7,none⟩=some V:=by
 rw [cell_of_row _ _ _ _ _ _ h.bx.out];rfl
theorem tin_push {w w5 w6:World} {g gO:Nat} {k:Int} {V v6:Value} {xs:List Tm} {q:Pl} {x:Tm} {cs:List Value} {qq:Nat→Pl} (h:TIn w w5 g gO k o0 pl0 V xs q x)
  (ho:w5.ownsRow (gO+1) eTm.ty eTm.sz V xs.length cs)
  (hk:∀ (i:Nat) (x:Tm),xs[i]?=some x→(∀ (j:Nat) (v:Value),(eTm.cells (qq i) x)[j]?=some v→cs[i * eTm.sz+j]?=some v)∧eTm.mem w5 (fun b=>gO+1≤b∧V.ownBlock≠some b) (qq i) x)
  (ho1:w6.ownsRow (gO+1) eTm.ty eTm.sz v6 (xs.length+1) (cs ++ eTm.cells q x)) (hg:w5.grownBy w6 V.ownBlock) (hat:v6.ownBlock=V.ownBlock∨∃ b,v6.ownBlock=some b∧w5.heap.size≤b):TOut w w5 w6 g gO k o0 pl0 V v6 (xs ++ [x]):=by
 have far:∀ k,k<gO+1→some k≠V.ownBlock:=fun k hk e=>by have:=own_base ho k e.symm;omega
 have hfar:=h.bx.far
 have hglt:=h.bx.glt
 have hch:Chg (fun k=>gO+1≤k) w5 w6:=⟨hg.os,hg.tape,hg.output,hg.size,fun i hi hn=>hg.block i hi (far i (by omega))⟩
 refine ⟨⟨(hch.block _ (blk_lt h.bx.out) (by omega)).trans h.bx.out,(hch.block _ (blk_lt h.bx.res) (by omega)).trans h.bx.res,?_,hfar,hglt,LvS.leaf0 _ _ _ _,LvS.leaf0 _ _ _ _,h.bx.fit⟩,RowG.push ho hk h.kid ho1 hg hat,hch.mono fun i hi=>by omega⟩
 refine ⟨hch.os.trans h.bx.chg.os,hch.tape.trans h.bx.chg.tape,hch.output.trans h.bx.chg.output,Nat.le_trans h.bx.chg.size hch.size,fun i hi hs=>?_⟩
 rw [hch.block i (Nat.lt_of_lt_of_le hi h.bx.chg.size) (by omega),h.bx.chg.block i hi hs]
theorem tout_fin {w w5 w6:World} {g gO j:Nat} {k:Int} {V V6:Value} {xs:List Tm} {R:Except Int (List Tm × List Int × Int)} (h:TOut w w5 w6 g gO k o0 pl0 V V6 xs) (hst:TmLt w5 g xs R) (hl:xs.length≤j) :
  ∃ v5 l5,Aside0 (TmLoop w (w6.setCell ⟨gO,7,none⟩ V6) g gO k o0 pl0 v5 l5 R j):=by
 have hfar:=h.bx.far
 have hglt:=h.bx.glt
 exact ⟨V6,xs,⟨h.bx.upd (chg_set _ _ _ _) (blk_put h.bx.out 7 _ rfl) (LvS.leaf0 _ _ _ _) (LvS.leaf0 _ _ _ _) h.bx.fit,h.kids.keep (chg_set _ _ _ _) (fun k e=>by omega),(hst.chg (S:=fun k=>g<k) (fun _ h=>h) h.chg).chg (S:=fun k=>k=gO) (fun k e=>by omega) (chg_set _ _ _ _),hl⟩⟩
theorem tmKids_le (k:Int):tmKids k≤3:=by unfold tmKids;split;decide;split <;> decide
end Go.Proofs.Ytcgkeolgflphiaa

namespace Go.Proofs.Ytcgkeolgflphiaa
open Go.RowKit Go.Proofs.YtcgkeolgflphiaaW.PrintWords Go.RegionInvYtcgkeolgflphiaa

theorem infoTmD:(Try.prog.info? 27).map (fun i=>(i.zero,i.size,i.bytes))=some (some (.agg #[.int .i64 0,.int .i64 0,.string ⟨#[]⟩,.int .i64 0,.int .i64 0,.slice none 0 0,.slice none 0 0,.slice none 0 0]),8,120):=by kernel_rfl
set_option maxRecDepth 100000 in
set_option maxHeartbeats 8000000 in
theorem term_step (f:Nat) (IH0:∀ (g:Nat) (xs:List Int) (N m d:Int) (w:World),1≤d→(f:Int)+d=65→0≤N→N≤400→RdOk w g xs N m→Calls Try.prog 107 #[.pointer (some ⟨g,0,none⟩),.int .i64 d] w (TmRd w g (tmR f xs N)))
  (g:Nat) (xs r:List Int) (N m d k:Int) (w:World) (hd0:1≤d) (hd:(f:Int)+1+d=65) (hm0:0≤N) (hm1:N<400) (h:RdOk w g xs N m) (hK:kindR 7 xs=.ok (k,r)) :
  Calls Try.prog 107 #[.pointer (some ⟨g,0,none⟩),.int .i64 d] w (TmRd w g (tmR (f+1) xs N)):=by
 have HK:=Ak hK
 have HR:=Ak h
 have HGL:=Ak h.lt
 have IH:=Ak IH0
 have hk:=(kind_put hK).2
 have hd1:d≤64:=by omega
 have HBY:=Ak (h.bytes.right (ys:=[k]) (zs:=r) (kind_put hK).1)
 clear h hK IH0
 go_enter Try.func107,Try.ntmps107
 go_upto_region 2 with (go_at_call 86;go_must (refine (kind_calls g xs N m 7 _ (HR.out.below (below_alloc (Below.refl _ _) _)) (by decide) (by decide)).mono ?_;rintro e w2 ⟨hc,hm⟩;rw [HK.out] at hm;obtain ⟨rfl,hok⟩:=hm;have HBX:=Ak (tmBx_new (k:=k) HGL.out hc);have HOK:=Ak (RdOk.below hok (below_alloc (Below.refl _ _) (tzO k)));clear hc hok))
 obtain ⟨gO,hgO⟩:∃ gO,gO=w2.heap.size:=⟨_,rfl⟩
 rw [← hgO] at HBX ⊢
 obtain ⟨W3,hW3⟩:∃ W3,W3=w2.alloc (tzO k):=⟨_,rfl⟩
 rw [← hW3] at HBX HOK ⊢
 have HSO:=Ak (show gO<W3.heap.size by rw [hW3,hgO];simp)
 clear hW3 hgO
 obtain ⟨A3,n3,c3',hg3,hs3⟩:=HOK.out
 obtain ⟨c0,c1,c2,c3,z0,z1,z2,z3⟩:=row4 hg3
 have HG3:=Ak hg3
 have HS3:=Ak hs3
 clear hg3 hs3
 go_upto_region 3 with (fail)
 have hmm0:0≤N+1:=by omega
 have hmm1:N+1≤400:=by omega
 obtain ⟨mm,hmm⟩:∃ mm,mm=N+1:=⟨_,rfl⟩
 rw [← hmm] at hmm0 hmm1 ⊢
 have HMM:=Ak hmm
 clear c0 c1 c2 c3 z0 z1 z2 z3 hmm
 have HG4:=Ak (rd4_1 (x:=.int .i64 mm) HG3.out)
 have HB4:=Ak (HBX.out.reader (chg_set W3 g 1 (.int .i64 mm)))
 have HS4:=Ak (HS3.out.chg (Nat.le_of_lt (blk_lt HG3.out)) (fun k e=>Nat.le_of_eq e.symm) (chg_set W3 g 1 (.int .i64 mm)))
 obtain ⟨W4,hW4⟩:∃ W4,W4=W3.setCell ⟨g,1,none⟩ (.int .i64 mm):=⟨_,rfl⟩
 rw [← hW4] at HG4 HB4 HS4 ⊢
 have HSO4:=Ak (show gO<W4.heap.size by rw [hW4,World.size_setCell];exact HSO.out)
 clear hW4 HBX HG3 HOK HS3 HSO
 obtain ⟨c0,c1,c2,c3,z0,z1,z2,z3⟩:=row4 HG4.out
 have hd':decide (64<d)=false:=decide_eq_false (by omega)
 have hm':decide (400<mm)=false:=decide_eq_false (by omega)
 go_upto_region 5 with (go_at_call 104;go_must (refine (fail_no g A3 n3 c3' mm m 2 _ HG4.out).mono ?_;rintro e w' ⟨rfl,hw⟩;subst hw))
 have HOK:=Ak (show RdOk w' g r mm m from ⟨A3,n3,c3',HG4.out,HS4.out⟩)
 clear HG4 HS4 c0 c1 c3 z0 z1 z3
 obtain ⟨⟨d0,d1,d2,d3,d4,d5,d6,d7⟩,y0,y1,y2,y3,y4,y5,y6,y7⟩:=row8t HB4.out.out
 obtain ⟨K,hKK⟩:∃ K,K=tmKids k:=⟨_,rfl⟩
 have HKK:=Ak hKK
 go_upto_block 0 with (fail)
 go_cut [6] (fun u w5=>u=.int .i64 K∧∃ o p,Aside0 (TmBx w w5 g gO k o p (.slice none 0 0))∧Aside0 (OwnSt w5 g mm o (tmOwn k r))∧Aside0 (0<tmKids k→o=o0∧p=pl0))
 case first =>
  by_cases k1:k=1
  ·subst k1
   rw [show tmKids 1=0 from rfl] at hKK
   subst hKK
   go_wp2_with (go_at_call 88;go_must (refine (number_calls g r mm m _ HOK.out).mono ?_;rintro e w6 hp;obtain ⟨n6,rfl,hn6,hc,hst⟩:=NumPost.one hp;have HB6:=Ak (HB4.out.reader hc);have HST:=Ak hst;have HN6:=Ak hn6;clear hn6 hc hst hp;obtain ⟨⟨-,a1,-⟩,-,b1,-⟩:=row8t HB6.out.out))
   go_meet
   case rel=>exact ⟨rfl,own_num HBY.out HB6.out HN6.out HST.out⟩
  ·have hk1:(k == 1)=false:=by simp [k1]
   by_cases k2:k=2
   ·subst k2
    rw [show tmKids 2=0 from rfl] at hKK
    subst hKK
    go_upto_region 11 with (fail)
    have HR5:=Ak (HOK.out.setm 0)
    have HB5:=Ak (HB4.out.reader (chg_set w' g 2 (.int .i64 0)))
    obtain ⟨W5,hW5⟩:∃ W5,W5=w'.setCell ⟨g,2,none⟩ (.int .i64 0):=⟨_,rfl⟩
    rw [← hW5] at HR5 HB5 ⊢
    have HSO5:=Ak (show gO<W5.heap.size by rw [hW5,World.size_setCell];exact HSO4.out)
    clear hW5
    go_wp2_with (go_at_call 119;go_must (refine (level_calls 32 g r mm 0 1 _ (by decide) (by decide) (by decide) (by decide) HR5.out).mono ?_;rintro e w6 ⟨A6,c6,l6,rfl,hl6,hc6,hst6⟩;have HB6:=Ak (HB5.out.reader hc6);have HL6:=Ak hl6;have HST6:=Ak hst6;clear hl6 hc6 hst6;simp only [lvV];obtain ⟨⟨-,-,-,a3,a4,a5,-⟩,-,-,-,b3,b4,b5,-⟩:=row8t HB6.out.out))
    go_meet
    case rel=>exact ⟨rfl,own_lv HB6.out HL6.out HSO5.out HST6.out⟩
   ·have hk2:(k == 2)=false:=by simp [k2]
    by_cases k7:k=7
    ·have HK7:=Ak k7
     have hk7:(k == 7)=true:=by simp [k7]
     rw [show tmKids k=0 by rw [k7];rfl] at hKK
     subst hKK
     clear k1 k2 k7
     go_upto_region 14 with (go_at_call 87;go_must (refine (rname_calls g r mm m _ HOK.out).mono ?_;rintro e w6 ⟨s6,rfl,hsz,hc6,hst6⟩;have HB6:=Ak (HB4.out.reader hc6);have HSZ:=Ak hsz;have HST6:=Ak hst6;have HZ6:=Ak hc6.size;clear hsz hc6 hst6;obtain ⟨⟨-,-,a2,-⟩,-,-,b2,-⟩:=row8t HB6.out.out))
     have HBN:=Ak (show TmBx w (w6.setCell ⟨gO,2,none⟩ (.string s6)) g gO k ⟨0,s6,.mk 0 0 [],[]⟩ pl0 (.slice none 0 0) by have h:=HB6.out;rw [HK7.out] at h ⊢;exact h.named HSZ.out)
     have HSN:=Ak (HST6.out.chg (S:=fun k=>k=gO) (fun k e=>by have:=HB6.out.far;have:=HB6.out.glt;omega) (chg_set w6 gO 2 (.string s6)))
     obtain ⟨W7,hW7⟩:∃ W7,W7=w6.setCell ⟨gO,2,none⟩ (.string s6):=⟨_,rfl⟩
     rw [← hW7] at HBN HSN ⊢
     have HSO7:=Ak (show gO<W7.heap.size by rw [hW7,World.size_setCell];exact Nat.lt_of_lt_of_le HSO4.out HZ6.out)
     clear hW7
     cases hR7:nameR r with
     | error er =>
      have hbad:=HSN.out
      rw [hR7] at hbad
      have HBAD:=Ak hbad
      have HNE:=Ak (name_err hR7)
      have HR7:=Ak hR7
      clear hR7 hbad
      go_wp2_with (go_at_call 120;go_must (refine (listOfLv_bad g er 6 _ HBAD.out HNE.out).mono ?_;rintro e w8 ⟨rfl,hb8⟩;have HB8:=Ak (HBN.out.below hb8);have HBAD8:=Ak (HBAD.out.below hb8);clear hb8;obtain ⟨⟨-,-,-,-,-,-,a6,-⟩,-,-,-,-,-,-,b6,-⟩:=row8t HB8.out.out))
      go_meet
      case rel=>exact ⟨rfl,own_const_bad HK7.out HB8.out HR7.out HBAD8.out⟩
     | ok y =>
      obtain ⟨s',r0⟩:=y
      have hok:=HSN.out
      rw [hR7] at hok
      have HOK7:=Ak hok
      have HR7:=Ak hR7
      clear hR7 hok
      go_wp2_with (go_at_call 120;go_must (refine (listOfLv_calls g r0 mm m 6 _ HOK7.out.2 (by decide) (by decide)).mono ?_;rintro e w8 ⟨V8,l8,rfl,hrow,hc8,hst8⟩;obtain ⟨B8,d8,rfl,hl8⟩:=rowLv_level hrow;have HL8:=Ak hl8;have HST8:=Ak hst8;have HB8:=Ak (HBN.out.reader hc8);clear hrow hl8 hc8 hst8;obtain ⟨⟨-,-,-,-,-,-,a6,-⟩,-,-,-,-,-,-,b6,-⟩:=row8t HB8.out.out))
      go_meet
      case rel=>exact ⟨rfl,own_const HK7.out HB8.out HR7.out HOK7.out.1 HL8.out HSO7.out HST8.out⟩
    ·have hk7:(k == 7)=false:=by simp [k7]
     have HNO:=Ak (own_none (N:=mm) k1 k2 k7 HB4.out HOK.out)
     by_cases k5:k=5
     ·rw [show tmKids k=3 by rw [k5];rfl] at hKK
      subst hKK
      have hk5:(k == 5)=true:=by simp [k5]
      clear k1 k2 k7 k5
      go_wp2
      go_meet
      case rel=>exact ⟨rfl,HNO.out⟩
     ·rw [show tmKids k=2 by unfold tmKids;rw [if_neg (by omega),if_neg k5]] at hKK
      subst hKK
      have hk5:(k == 5)=false:=by simp [k5]
      clear k1 k2 k7 k5
      go_wp2
      go_meet
      case rel=>exact ⟨rfl,HNO.out⟩
 case rest =>
  obtain ⟨rfl,o,p,HB5,HST5,HOP⟩:=hcut
  clear c2 z2 d0 d1 d2 d3 d4 d5 d6 d7 y0 y1 y2 y3 y4 y5 y6 y7 HB4 HOK hd' hm'
  have hK3:K≤3:=by rw [hKK];exact tmKids_le k
  have HOWN:=Ak (show ∀ o' r',tmOwn k r=.ok (o',r')→o=o' from fun o' r' h=>by have h2:=HST5.out;rw [h] at h2;exact h2.1)
  clear hKK
  go_wp2
  go_loopw [55] (fun i wr=>∃ (j:Nat) (V:Value) (l:List Tm),i=.int .i64 j∧j≤K∧Aside0 (TmLoop w wr g gO k o p V l (tmPre f (tmOwn k r) mm j) j)) (fun i _=>K - (intOf i).toNat)
  case atStart=>exact ⟨0,_,_,rfl,Nat.zero_le _,⟨tmLoop_start HB5.out HST5.out⟩⟩
  case round =>
   obtain ⟨j,V,l,rfl,hj,HL⟩:=hrel
   by_cases hlt:j<K
   ·obtain ⟨ho,hp⟩:=HOP.out (by rw [← HKK.out];omega)
    subst ho
    subst hp
    cases hP:tmPre f (tmOwn k r) mm j with
    | error e =>
     have hst:=HL.out.st
     rw [hP] at hst
     obtain ⟨A6,n6,c6,N6,m6,hg6⟩:=hst
     have he':(e == 0)=false:=by simp [tmPre_ne hP]
     obtain ⟨b0,b1,b2,b3,-,-,-,-⟩:=row4 hg6
     have HN:=Ak (tmLoop_same HL.out hP)
     clear hg6 hP
     go_wp2
     go_roundw
     case rel=>exact ⟨j+1,V,l,by go_num,by omega,HN⟩
     case measure=>(simp [intOf];try omega)
    | ok x =>
     obtain ⟨l',r1,m1⟩:=x
     have hst:=HL.out.st
     rw [hP] at hst
     obtain ⟨-,mx,hok⟩:=hst
     have HOK:=Ak hok
     have hgr:=tmPre_grow hP hmm0 hmm1
     have HP:=Ak (show tmPre f (tmOwn k r) mm j=.ok (l,r1,m1) by rw [hP];have:=HL.out.st;rw [hP] at this;rw [this.1])
     have hlen:=HL.out.len
     obtain ⟨A6,n6,c6,hg6,-⟩:=hok
     obtain ⟨b0,b1,b2,b3,-,-,-,-⟩:=row4 hg6
     obtain ⟨⟨-,-,-,-,-,-,-,hcv⟩,-,-,-,-,-,-,-,hcz⟩:=row8t HL.out.bx.out
     clear hP hg6 b0 b1 b2
     go_upto_block 2 with (fail)
     go_cut [] (fun w5=>∃ v5 l5,Aside0 (TmLoop w w5 g gO k o0 pl0 v5 l5 (tmPre f (tmOwn k r) mm (j+1)) (j+1)))
     case first =>
      go_upto_region 20 with (fail)
      have hw9:IntKind.i64.wrap (d+1)=d+1:=IntWalk.i64_in _ (by omega)
      go_region_law (first
       | (go_simp;go_at_call 107;(try rw [hw9]);refine (IH.out g r1 m1 mx (d+1) _ (by omega) (by omega) hgr.1 hgr.2 (HOK.out.below (by repeat' first | exact Below.refl _ _ | apply below_drew | apply below_alloc))).mono ?_;rintro e w5 ⟨q5,t5,rfl,hl5,hc5,hm5⟩;have ST5:=Ak (tin_in HL.out.bx HL.out.kids (by repeat' first | exact Below.refl _ _ | apply below_drew | apply below_alloc) hc5 hl5);have HST5:=Ak (tmLoop_next HP.out hm5);have hcv5:=ST5.out.cell;have hcz5:=blk_frozen ST5.out.bx.out 7;have hcw5:=ST5.out.cell2 (.cells #[.int .i64 t5.kind,.int .i64 t5.num,.string t5.name,.int .i64 t5.lv.kind,.int .i64 t5.lv.num,.slice q5.A t5.lv.kids.length q5.c,.slice q5.B t5.ls.length q5.d,.slice q5.K t5.kids.length q5.e] 27 (0,0));clear hl5 hc5 hm5;simp only [tmV])
       | (first
         | (have STA:=Ak ST5.out;obtain ⟨cells,qq,hown,hkids⟩:=STA.out.kids;refine step_append_cells (w0:=w5) (W:=w5) (gO+1) (by simp [Region.wanted]) (.tmp 63) (.tmp 68) 25 27 _ 8 120 rfl Try.underlying25 infoTmD rfl (by decide) (by decide) V l.length cells (tmC q5 t5) rfl rfl rfl (List.all_eq_true.1 rfl) hown (Below.refl _ _) STA.out.size (by omega) ?_;intro v6 w6 ho6 _ hg6 hat6;obtain ⟨A6,c6,rfl⟩:=own_slice ho6;have ST6:=Ak (tin_push STA.out hown hkids ho6 hg6 hat6);have HSTX:=Ak (HST5.out.chg (S:=fun _=>False) (fun _ h=>h.elim) (Chg.of_below (by repeat' first | exact Below.refl _ _ | apply below_drew)):TmLt w5 g (l ++ [t5]) (tmPre f (tmOwn k r) mm (j+1)));have hcv6:=ST6.out.cell;have hcz6:=blk_frozen ST6.out.bx.out 7;clear hown hkids ho6 hg6 hat6 STA)
         | (have STA:=Ak ST5.out.drew;obtain ⟨cells,qq,hown,hkids⟩:=STA.out.kids;refine step_append_cells (w0:=w5.drew) (W:=w5.drew) (gO+1) (by simp [Region.wanted]) (.tmp 63) (.tmp 68) 25 27 _ 8 120 rfl Try.underlying25 infoTmD rfl (by decide) (by decide) V l.length cells (tmC q5 t5) rfl rfl rfl (List.all_eq_true.1 rfl) hown (Below.refl _ _) STA.out.size (by omega) ?_;intro v6 w6 ho6 _ hg6 hat6;obtain ⟨A6,c6,rfl⟩:=own_slice ho6;have ST6:=Ak (tin_push STA.out hown hkids ho6 hg6 hat6);have HSTX:=Ak (HST5.out.chg (S:=fun _=>False) (fun _ h=>h.elim) (Chg.of_below (by repeat' first | exact Below.refl _ _ | apply below_drew)):TmLt w5.drew g (l ++ [t5]) (tmPre f (tmOwn k r) mm (j+1)));have hcv6:=ST6.out.cell;have hcz6:=blk_frozen ST6.out.bx.out 7;clear hown hkids ho6 hg6 hat6 STA)
         | (trace_state;fail)))
      all_goals (go_wp2;go_meet)
      all_goals (exact tout_fin ST6.out HSTX.out (by simp only [List.length_append,List.length_singleton];omega))
     case rest =>
      clear HL hcv hcz b3 HOK HP hlen
      obtain ⟨V2,l2,HL⟩:=hcut
      go_wp2
      go_roundw
      case rel=>exact ⟨j+1,V2,l2,by go_num,by omega,HL⟩
      case measure=>(simp [intOf];try omega)
   ·obtain rfl:j=K:=by omega
    have hlt':decide ((j:Int)<j)=false:=by simp
    obtain ⟨A9,c9,rfl,-⟩:=rowTm_term HL.out.kids
    obtain ⟨L9,hL9⟩:∃ L9,L9=l.length:=⟨_,rfl⟩
    rw [← hL9] at HL
    have HL9:=Ak hL9
    obtain ⟨⟨d0,d1,d2,d3,d4,d5,d6,d7⟩,-⟩:=row8t HL.out.bx.out
    obtain ⟨⟨e0,e1,e2,e3,e4,e5,e6,e7⟩,x0,x1,x2,x3,x4,x5,x6,x7⟩:=row8t HL.out.bx.res
    clear hL9
    go_wp2
    refine bodyPost_ret (results_c rfl _ _ w.heap.size 27 #[.int .i64 k,.int .i64 o.n,.string o.s,.int .i64 o.lv.kind,.int .i64 o.lv.num,.slice p.A o.lv.kids.length p.c,.slice p.B o.ls.length p.d,.slice A9 L9 c9] (0,0) _ rfl (set8 HL.out.bx.res) Try.underlying27 rfl (by kernel_rfl)) rfl ?_
    have HLX:=HL.out
    rw [HMM.out] at HLX
    exact tmLoop_end HK.out (by omega) HKK.out HLX HL9.out HOWN.out (chg_set8 _ _ _ _ _ _ _ _ _ _)
theorem term_calls:∀ (f:Nat) (g:Nat) (xs:List Int) (N m d:Int) (w:World),1≤d→(f:Int)+d=65→0≤N→N≤400→RdOk w g xs N m→Calls Try.prog 107 #[.pointer (some ⟨g,0,none⟩),.int .i64 d] w (TmRd w g (tmR f xs N))
 | f,g,xs,N,m,d,w,hd1,hd,h0,h1,h=>by
  cases hK:kindR 7 xs with
  | error er =>
   have e:tmR f xs N=.error er:=by cases f <;> rw [tmR,hK]
   rw [e]
   refine term_bad g d er w (fun W hc=>(kind_calls g xs N m 7 W (h.below hc) (by decide) (by decide)).mono ?_) h.lt (kind_err hK)
   rintro e w' ⟨hc,hm⟩
   rw [hK] at hm
   exact ⟨hm.1,hc,hm.2⟩
  | ok x =>
   obtain ⟨k,r⟩:=x
   cases f with
   | zero =>
    rw [tmR,hK]
    exact term_deep g xs r N m d k w h hK h0 h1 (.inl (by omega))
   | succ f =>
    by_cases hm:400<N+1
    ·rw [tmR,hK]
     simp only []
     rw [if_pos hm]
     exact term_deep g xs r N m d k w h hK h0 h1 (.inr hm)
    ·exact term_step f (term_calls f) g xs r N m d k w hd1 (by omega) h0 (by omega) h hK
end Go.Proofs.Ytcgkeolgflphiaa

namespace Go.Proofs.Ytcgkeolgflphiaa
open Go.RowKit Go.Proofs.YtcgkeolgflphiaaW.PrintWords Go.RegionInvYtcgkeolgflphiaa

def RS (W:World) (g:Nat):Except Int (List Int)→Prop
 | .ok xs=>∃ N m,RdOk W g xs N m
 | .error e=>e≠0∧RdBad W g e
def nextR {α:Type} (s:Except Int (List Int)) (f:List Int→Except Int (α × List Int)):Except Int (α × List Int):=match s with
 | .error e=>.error e
 | .ok xs=>f xs
def restR {α:Type}:Except Int (α × List Int)→Except Int (List Int)
 | .error e=>.error e
 | .ok (_,r)=>.ok r
def valIs {α:Type} (x:α):Except Int (α × List Int)→Prop
 | .error _=>True
 | .ok (y,_)=>x=y
theorem RS.chg {W W':World} {g:Nat} {s:Except Int (List Int)} {S:Nat→Prop} (h:RS W g s) (hS:∀ k,S k→g<k) (hc:Chg S W W'):RS W' g s:=by
 cases s with
 | error e=>exact ⟨h.1,h.2.chg hS hc⟩
 | ok x=>obtain ⟨N,m,h⟩:=h;exact ⟨N,m,h.chg hS hc⟩
theorem RS.below {W W':World} {g:Nat} {s:Except Int (List Int)} (h:RS W g s) (hb:Below W.heap.size W W'):RS W' g s:=h.chg (S:=fun _=>False) (fun _ h=>h.elim) (Chg.of_below hb)
theorem RS.lt {W:World} {g:Nat} {s:Except Int (List Int)} (h:RS W g s):g<W.heap.size:=by
 cases s with
 | error e=>exact h.2.lt
 | ok x=>obtain ⟨N,m,h⟩:=h;exact h.lt
def BoxOf (W:World) (g:Nat) (A:Option Addr) (n c:Nat) (e:Int):Except Int (List Int)→Prop
 | .ok xs=>e=0∧Bs W g A n c xs
 | .error k=>e=k∧k≠0
theorem RS.box {W:World} {g:Nat} {s:Except Int (List Int)} (h:RS W g s):∃ A n c N m e,W.heap[g]?=some (rdB A n c N m e)∧BoxOf W g A n c e s:=by
 cases s with
 | error e=>obtain ⟨h0,A,n,c,N,m,hb⟩:=h;exact ⟨A,n,c,N,m,e,hb,rfl,h0⟩
 | ok x=>obtain ⟨N,m,A,n,c,hb,hs⟩:=h;exact ⟨A,n,c,N,m,0,hb,rfl,hs⟩
theorem kind_any (g:Nat) (s:Except Int (List Int)) (most:Int) (w:World) (h:RS w g s) (h1:1≤most) (h2:most≤255) :
  Calls Try.prog 86 #[.pointer (some ⟨g,0,none⟩),.int .i64 most] w fun e w'=>∃ k,e=.returned (.int .i64 k)∧Chg (fun k=>k=g) w w'∧RS w' g (restR (nextR s (kindR most)))∧valIs k (nextR s (kindR most)):=by
 cases s with
 | error er =>
  refine (kind_bad g er most w h.2 h.1).mono ?_
  rintro e w' ⟨rfl,hw⟩
  subst hw
  exact ⟨0,rfl,Chg.refl _ _,h,trivial⟩
 | ok xs =>
  obtain ⟨N,m,h⟩:=h
  refine (kind_calls g xs N m most w h h1 h2).mono ?_
  rintro e w' ⟨hc,hm⟩
  show ∃ k,_∧_∧RS w' g (restR (kindR most xs))∧valIs k (kindR most xs)
  cases hK:kindR most xs with
  | error er=>rw [hK] at hm;exact ⟨0,hm.1,hc,⟨kind_err hK,hm.2⟩,trivial⟩
  | ok y=>rw [hK] at hm;exact ⟨y.1,hm.1,hc,⟨N,m,hm.2⟩,rfl⟩
theorem num_any (g:Nat) (s:Except Int (List Int)) (w:World) (h:RS w g s) :
  Calls Try.prog 88 #[.pointer (some ⟨g,0,none⟩)] w fun e w'=>∃ k,e=.returned (.int .i64 k)∧Chg (fun k=>k=g) w w'∧RS w' g (restR (nextR s numR))∧valIs k (nextR s numR):=by
 cases s with
 | error er =>
  refine (number_bad g er w h.2 h.1).mono ?_
  rintro e w' ⟨rfl,hw⟩
  subst hw
  exact ⟨0,rfl,Chg.refl _ _,h,trivial⟩
 | ok xs =>
  obtain ⟨N,m,h⟩:=h
  refine (number_calls g xs N m w h).mono ?_
  rintro e w' ⟨hc,hm⟩
  show ∃ k,_∧_∧RS w' g (restR (numR xs))∧valIs k (numR xs)
  cases hK:numR xs with
  | error er=>rw [hK] at hm;exact ⟨0,hm.1,hc,⟨num_err hK,hm.2⟩,trivial⟩
  | ok y=>rw [hK] at hm;exact ⟨y.1,hm.1,hc,⟨N,m,hm.2⟩,rfl⟩
theorem name_any (g:Nat) (s:Except Int (List Int)) (w:World) (h:RS w g s) :
  Calls Try.prog 87 #[.pointer (some ⟨g,0,none⟩)] w fun e w'=>∃ k,e=.returned (.string k)∧k.size≤140737488355328∧Chg (fun k=>k=g) w w'∧RS w' g (restR (nextR s nameR))∧valIs k (nextR s nameR):=by
 cases s with
 | error er =>
  refine (name_bad g er w h.2 h.1).mono ?_
  rintro e w' ⟨rfl,hw⟩
  subst hw
  exact ⟨_,rfl,by decide,Chg.refl _ _,h,trivial⟩
 | ok xs =>
  obtain ⟨N,m,h⟩:=h
  refine (rname_calls g xs N m w h).mono ?_
  rintro e w' ⟨k,he,hsz,hc,hm⟩
  show ∃ k,_∧_∧_∧RS w' g (restR (nameR xs))∧valIs k (nameR xs)
  cases hK:nameR xs with
  | error er=>rw [hK] at hm;exact ⟨k,he,hsz,hc,⟨name_err hK,hm⟩,trivial⟩
  | ok y=>rw [hK] at hm;exact ⟨k,he,hsz,hc,⟨N,m,hm.2⟩,hm.1⟩
def AnyTm (w:World) (g:Nat) (R:Except Int (Tm × List Int)) (e:Ending) (w':World):Prop:=
 ∃ p t,e=.returned (tmV p t)∧TmS w' (fun b=>w.heap.size≤b) p t∧Chg (fun k=>k=g) w w'∧RS w' g (restR R)∧valIs t R
theorem tmRd_any {w:World} {g:Nat} {R:Except Int (Tm × List Int × Int)} {R2:Except Int (Tm × List Int)} (h1:∀ k,R=.error k→R2=.error k∧k≠0) (h2:∀ t r m,R=.ok (t,r,m)→R2=.ok (t,r)) {e:Ending} {w':World} (h:TmRd w g R e w'):AnyTm w g R2 e w':=by
 obtain ⟨p,t,he,ht,hc,hs⟩:=h
 refine ⟨p,t,he,ht,hc,?_⟩
 cases R with
 | error k=>rw [(h1 k rfl).1];exact ⟨⟨(h1 k rfl).2,hs⟩,trivial⟩
 | ok y=>obtain ⟨m,hm⟩:=hs.2;rw [h2 y.1 y.2.1 y.2.2 rfl];exact ⟨⟨_,m,hm⟩,hs.1⟩
def RSn (W:World) (g:Nat):Except Int (List Int)→Prop
 | .ok xs=>∃ m,RdOk W g xs 0 m
 | .error e=>e≠0∧RdBad W g e
theorem RS.setn {W:World} {g:Nat} {s:Except Int (List Int)} (h:RS W g s):RSn (W.setCell ⟨g,1,none⟩ (.int .i64 0)) g s:=by
 cases s with
 | error e=>exact ⟨h.1,h.2.setn 0⟩
 | ok xs=>obtain ⟨N,m,h⟩:=h;exact ⟨m,h.setn 0⟩
theorem term_any (g:Nat) (s:Except Int (List Int)) (w:World) (h:RSn w g s) :
  Calls Try.prog 107 #[.pointer (some ⟨g,0,none⟩),.int .i64 1] w (AnyTm w g (nextR s wholeR)):=by
 cases s with
 | error er =>
  refine (term_bad g 1 er w (fun W hc=>(kind_bad g er 7 W (h.2.below hc) h.1).mono ?_) h.2.lt h.1).mono fun e w' hp=>tmRd_any (R2:=.error er) (fun k hk=>by cases hk;exact ⟨rfl,h.1⟩) (fun t r m hk=>by cases hk) hp
  rintro e w' ⟨rfl,hw⟩
  subst hw
  exact ⟨rfl,Chg.refl _ _,h.2.below hc⟩
 | ok xs =>
  obtain ⟨m,h⟩:=h
  refine (term_calls 64 g xs 0 m 1 w (by decide) (by decide) (by decide) (by decide) h).mono fun e w' hp=>tmRd_any (R2:=wholeR xs) (fun k hk=>?_) (fun t r m hk=>?_) hp
  ·unfold wholeR;rw [hk];exact ⟨rfl,tm_err 64 hk⟩
  ·unfold wholeR;rw [hk]
theorem anyTm_out {w W0 w5:World} {g:Nat} {R:Except Int (Tm × List Int)} {p:Pl} {t:Tm} (hg:g<w.heap.size) (hz:W0.heap.size=w.heap.size+1) (h0:Chg (fun k=>k=g) w W0) (h1:TmS w5 (fun b=>W0.heap.size≤b) p t) (h2:Chg (fun k=>k=g) W0 w5)
  (h3:RS w5 g (restR R)) (h4:valIs t R) (W':World) (hch:Chg (fun k=>k=w.heap.size) w5 W'):AnyTm w g R (.returned (tmV p t)) W':=by
 have h02:=chg_trans h0 h2
 have hs:=h2.size
 refine ⟨p,t,rfl,(h1.same fun k hk _=>hch.block k (by omega) (by omega)).mono fun k hk _=>by omega,⟨hch.os.trans h02.os,hch.tape.trans h02.tape,hch.output.trans h02.output,Nat.le_trans h02.size hch.size,fun i hi hs=>?_⟩,?_,h4⟩
 ·rw [hch.block i (Nat.lt_of_lt_of_le hi h02.size) (by omega),h02.block i hi hs]
 ·exact h3.chg (S:=fun k=>k=w.heap.size) (fun k e=>by omega) hch
set_option maxHeartbeats 4000000 in
theorem whole_any (g:Nat) (s:Except Int (List Int)) (w:World) (h:RS w g s) :
  Calls Try.prog 89 #[.pointer (some ⟨g,0,none⟩)] w (AnyTm w g (nextR s wholeR)):=by
 have HGL:=Ak h.lt
 have HR0:=Ak (h.below (below_alloc (Below.refl _ _) (tzO 0)))
 have HX0:=Ak (blk_new w (tzO 0))
 have HB0:=Ak (below_alloc (Below.refl w.heap.size w) (tzO 0))
 have HZ0:=Ak (show (w.alloc (tzO 0)).heap.size=w.heap.size+1 by simp)
 clear h
 go_enter Try.func89,Try.ntmps89
 go_upto_region 1 with (fail)
 obtain ⟨W0,hW0⟩:∃ W0,W0=w.alloc (tzO 0):=⟨_,rfl⟩
 rw [← hW0] at HR0 HX0 HB0 HZ0 ⊢
 clear hW0
 obtain ⟨A,n,c,N,m,er,hg,hsem⟩:=HR0.out.box
 obtain ⟨c0,c1,c2,c3,z0,z1,z2,z3⟩:=row4 hg
 clear hg hsem
 go_upto_region 2 with (fail)
 have HR1:=Ak HR0.out.setn
 have HX1:=Ak (((chg_set W0 g 1 (.int .i64 0)).block _ (blk_lt HX0.out) (by have:=HGL.out;omega)).trans HX0.out)
 have HC1:=Ak (show Chg (fun k=>k=g) w (W0.setCell ⟨g,1,none⟩ (.int .i64 0)) from chg_trans (Chg.of_below HB0.out) (chg_set _ _ _ _))
 have HZ1:=Ak (show (W0.setCell ⟨g,1,none⟩ (.int .i64 0)).heap.size=w.heap.size+1 by rw [World.size_setCell];exact HZ0.out)
 obtain ⟨W1,hW1⟩:∃ W1,W1=W0.setCell ⟨g,1,none⟩ (.int .i64 0):=⟨_,rfl⟩
 rw [← hW1] at HR1 HX1 HC1 HZ1 ⊢
 clear hW1 c0 c1 c2 c3 z0 z1 z2 z3 HR0 HX0 HB0 HZ0
 go_wp2_with (go_at_call 107;go_must (refine (term_any g s _ HR1.out).mono ?_;rintro e w5 ⟨p5,t5,rfl,hl5,hc5,hm5,hv5⟩;have HX5:=Ak ((hc5.block _ (blk_lt HX1.out) (by have:=HGL.out;omega)).trans HX1.out);have HL5:=Ak hl5;have HC5:=Ak hc5;have HM5:=Ak hm5;have HV5:=Ak hv5;clear hl5 hc5 hm5 hv5;obtain ⟨⟨e0,e1,e2,e3,e4,e5,e6,e7⟩,x0,x1,x2,x3,x4,x5,x6,x7⟩:=row8t HX5.out;simp only [tmV]))
 refine bodyPost_ret (results_c rfl _ _ w.heap.size 27 #[.int .i64 t5.kind,.int .i64 t5.num,.string t5.name,.int .i64 t5.lv.kind,.int .i64 t5.lv.num,.slice p5.A t5.lv.kids.length p5.c,.slice p5.B t5.ls.length p5.d,.slice p5.K t5.kids.length p5.e] (0,0) _ rfl (set8 HX5.out) Try.underlying27 rfl (by kernel_rfl)) rfl ?_
 exact anyTm_out HGL.out HZ1.out HC1.out HL5.out HC5.out HM5.out HV5.out _ (chg_set8 _ _ _ _ _ _ _ _ _ _)
end Go.Proofs.Ytcgkeolgflphiaa

namespace Go.Proofs.Ytcgkeolgflphiaa
open Go.RowKit Go.Proofs.YtcgkeolgflphiaaW.PrintWords Go.RegionInvYtcgkeolgflphiaa

theorem set9 {w:World} {g:Nat} {x0 x1 x2 x3 x4 x5 x6 x7 x8 a0 a1 a2 a3 a4 a5 a6 a7 a8:Value} {t:TypeId} (h:w.heap[g]?=some (.cells #[x0,x1,x2,x3,x4,x5,x6,x7,x8] t (0,0))) :
  (((((((((w.setCell ⟨g,0,none⟩ a0).setCell ⟨g,1,none⟩ a1).setCell ⟨g,2,none⟩ a2).setCell ⟨g,3,none⟩ a3).setCell ⟨g,4,none⟩ a4).setCell ⟨g,5,none⟩ a5).setCell ⟨g,6,none⟩ a6).setCell ⟨g,7,none⟩ a7).setCell ⟨g,8,none⟩ a8).heap[g]?=some (.cells #[a0,a1,a2,a3,a4,a5,a6,a7,a8] t (0,0)):=by
 have h0:(w.setCell ⟨g,0,none⟩ a0).heap[g]?=some (.cells #[a0,x1,x2,x3,x4,x5,x6,x7,x8] t (0,0)):=blk_put h 0 a0 rfl
 have h1:((w.setCell ⟨g,0,none⟩ a0).setCell ⟨g,1,none⟩ a1).heap[g]?=some (.cells #[a0,a1,x2,x3,x4,x5,x6,x7,x8] t (0,0)):=blk_put h0 1 a1 rfl
 have h2:(((w.setCell ⟨g,0,none⟩ a0).setCell ⟨g,1,none⟩ a1).setCell ⟨g,2,none⟩ a2).heap[g]?=some (.cells #[a0,a1,a2,x3,x4,x5,x6,x7,x8] t (0,0)):=blk_put h1 2 a2 rfl
 have h3:((((w.setCell ⟨g,0,none⟩ a0).setCell ⟨g,1,none⟩ a1).setCell ⟨g,2,none⟩ a2).setCell ⟨g,3,none⟩ a3).heap[g]?=some (.cells #[a0,a1,a2,a3,x4,x5,x6,x7,x8] t (0,0)):=blk_put h2 3 a3 rfl
 have h4:(((((w.setCell ⟨g,0,none⟩ a0).setCell ⟨g,1,none⟩ a1).setCell ⟨g,2,none⟩ a2).setCell ⟨g,3,none⟩ a3).setCell ⟨g,4,none⟩ a4).heap[g]?=some (.cells #[a0,a1,a2,a3,a4,x5,x6,x7,x8] t (0,0)):=blk_put h3 4 a4 rfl
 have h5:((((((w.setCell ⟨g,0,none⟩ a0).setCell ⟨g,1,none⟩ a1).setCell ⟨g,2,none⟩ a2).setCell ⟨g,3,none⟩ a3).setCell ⟨g,4,none⟩ a4).setCell ⟨g,5,none⟩ a5).heap[g]?=some (.cells #[a0,a1,a2,a3,a4,a5,x6,x7,x8] t (0,0)):=blk_put h4 5 a5 rfl
 have h6:(((((((w.setCell ⟨g,0,none⟩ a0).setCell ⟨g,1,none⟩ a1).setCell ⟨g,2,none⟩ a2).setCell ⟨g,3,none⟩ a3).setCell ⟨g,4,none⟩ a4).setCell ⟨g,5,none⟩ a5).setCell ⟨g,6,none⟩ a6).heap[g]?=some (.cells #[a0,a1,a2,a3,a4,a5,a6,x7,x8] t (0,0)):=blk_put h5 6 a6 rfl
 have h7:((((((((w.setCell ⟨g,0,none⟩ a0).setCell ⟨g,1,none⟩ a1).setCell ⟨g,2,none⟩ a2).setCell ⟨g,3,none⟩ a3).setCell ⟨g,4,none⟩ a4).setCell ⟨g,5,none⟩ a5).setCell ⟨g,6,none⟩ a6).setCell ⟨g,7,none⟩ a7).heap[g]?=some (.cells #[a0,a1,a2,a3,a4,a5,a6,a7,x8] t (0,0)):=blk_put h6 7 a7 rfl
 have h8:(((((((((w.setCell ⟨g,0,none⟩ a0).setCell ⟨g,1,none⟩ a1).setCell ⟨g,2,none⟩ a2).setCell ⟨g,3,none⟩ a3).setCell ⟨g,4,none⟩ a4).setCell ⟨g,5,none⟩ a5).setCell ⟨g,6,none⟩ a6).setCell ⟨g,7,none⟩ a7).setCell ⟨g,8,none⟩ a8).heap[g]?=some (.cells #[a0,a1,a2,a3,a4,a5,a6,a7,a8] t (0,0)):=blk_put h7 8 a8 rfl
 exact h8
theorem chg_set9 (w:World) (g:Nat) (a0 a1 a2 a3 a4 a5 a6 a7 a8:Value):Chg (fun k=>k=g) w (((((((((w.setCell ⟨g,0,none⟩ a0).setCell ⟨g,1,none⟩ a1).setCell ⟨g,2,none⟩ a2).setCell ⟨g,3,none⟩ a3).setCell ⟨g,4,none⟩ a4).setCell ⟨g,5,none⟩ a5).setCell ⟨g,6,none⟩ a6).setCell ⟨g,7,none⟩ a7).setCell ⟨g,8,none⟩ a8):=(chg_trans (chg_trans (chg_trans (chg_trans (chg_trans (chg_trans (chg_trans (chg_trans (chg_set _ _ _ _) (chg_set _ _ _ _)) (chg_set _ _ _ _)) (chg_set _ _ _ _)) (chg_set _ _ _ _)) (chg_set _ _ _ _)) (chg_set _ _ _ _)) (chg_set _ _ _ _)) (chg_set _ _ _ _))
theorem row9t {w:World} {g:Nat} {v0 v1 v2 v3 v4 v5 v6 v7 v8:Value} {t:TypeId} (h:w.heap[g]?=some (.cells #[v0,v1,v2,v3,v4,v5,v6,v7,v8] t (0,0))) :
  (w.cell? ⟨g,0,none⟩=some v0∧w.cell? ⟨g,1,none⟩=some v1∧w.cell? ⟨g,2,none⟩=some v2∧w.cell? ⟨g,3,none⟩=some v3∧w.cell? ⟨g,4,none⟩=some v4∧w.cell? ⟨g,5,none⟩=some v5∧w.cell? ⟨g,6,none⟩=some v6∧w.cell? ⟨g,7,none⟩=some v7∧w.cell? ⟨g,8,none⟩=some v8) ∧
  (w.frozen? ⟨g,0,none⟩=false∧w.frozen? ⟨g,1,none⟩=false∧w.frozen? ⟨g,2,none⟩=false∧w.frozen? ⟨g,3,none⟩=false∧w.frozen? ⟨g,4,none⟩=false∧w.frozen? ⟨g,5,none⟩=false∧w.frozen? ⟨g,6,none⟩=false∧w.frozen? ⟨g,7,none⟩=false∧w.frozen? ⟨g,8,none⟩=false):=by
 refine ⟨⟨?_,?_,?_,?_,?_,?_,?_,?_,?_⟩,blk_frozen h 0,blk_frozen h 1,blk_frozen h 2,blk_frozen h 3,blk_frozen h 4,blk_frozen h 5,blk_frozen h 6,blk_frozen h 7,blk_frozen h 8⟩ <;> (rw [cell_of_row _ _ _ _ _ _ h];rfl)
abbrev czO:Obj:=.cells #[.string ⟨#[]⟩,.int .i64 0,.int .i64 0,.string ⟨#[]⟩,.int .i64 0,.int .i64 0,.slice none 0 0,.slice none 0 0,.slice none 0 0] 63 (0,0)
def AnyCt (w:World) (g:Nat) (R:Except Int (Ct × List Int)) (e:Ending) (w':World):Prop:=
 ∃ p c,e=.returned (ctV p c)∧(TmS w' (fun b=>w.heap.size≤b) p c.ty∧c.nm.size≤140737488355328)∧Chg (fun k=>k=g) w w'∧RS w' g (restR R)∧valIs c R
theorem ctR_chain (s:Except Int (List Int)):restR (nextR s ctR)=restR (nextR (restR (nextR s nameR)) wholeR)∧∀ k t,valIs k (nextR s nameR)→valIs t (nextR (restR (nextR s nameR)) wholeR)→valIs (⟨k,t⟩:Ct) (nextR s ctR):=by
 cases s with
 | error e=>exact ⟨rfl,fun _ _ _ _=>trivial⟩
 | ok xs =>
  simp only [nextR]
  unfold ctR
  cases nameR xs with
  | error e=>exact ⟨rfl,fun _ _ _ _=>trivial⟩
  | ok y =>
   simp only [restR]
   cases wholeR y.2 with
   | error e=>exact ⟨rfl,fun _ _ _ _=>trivial⟩
   | ok z=>exact ⟨rfl,fun k t h1 h2=>by show (⟨k,t⟩:Ct)=⟨y.1,z.1⟩;rw [show k=y.1 from h1,show t=z.1 from h2]⟩
set_option maxHeartbeats 4000000 in
theorem ctor_any (g:Nat) (s:Except Int (List Int)) (w:World) (h:RS w g s) :
  Calls Try.prog 91 #[.pointer (some ⟨g,0,none⟩)] w (AnyCt w g (nextR s ctR)):=by
 have HGL:=Ak h.lt
 have HR0:=Ak (h.below (below_alloc (Below.refl _ _) czO))
 have HX0:=Ak (blk_new w czO)
 have HB0:=Ak (below_alloc (Below.refl w.heap.size w) czO)
 have HZ0:=Ak (show (w.alloc czO).heap.size=w.heap.size+1 by simp)
 clear h
 go_enter Try.func91,Try.ntmps91
 go_upto_region 1 with (fail)
 obtain ⟨W0,hW0⟩:∃ W0,W0=w.alloc czO:=⟨_,rfl⟩
 rw [← hW0] at HR0 HX0 HB0 HZ0 ⊢
 clear hW0
 go_wp2_with (first
  | (go_at_call 87;go_must (refine (name_any g s _ HR0.out).mono ?_;rintro e w3 ⟨k3,rfl,hsz,hc3,hm3,hv3⟩;have HX3:=Ak ((hc3.block _ (blk_lt HX0.out) (by have:=HGL.out;omega)).trans HX0.out);have HC3:=Ak hc3;have HM3:=Ak hm3;have HV3:=Ak hv3;have HSZ:=Ak hsz;clear hc3 hm3 hv3 hsz))
  | (go_at_call 89;go_must (refine (whole_any g _ _ HM3.out).mono ?_;rintro e w5 ⟨p5,t5,rfl,hl5,hc5,hm5,hv5⟩;have HX5:=Ak ((hc5.block _ (blk_lt HX3.out) (by have:=HGL.out;omega)).trans HX3.out);have HL5:=Ak hl5;have HC5:=Ak hc5;have HM5:=Ak hm5;have HV5:=Ak hv5;clear hl5 hc5 hm5 hv5;obtain ⟨⟨e0,e1,e2,e3,e4,e5,e6,e7,e8⟩,x0,x1,x2,x3,x4,x5,x6,x7,x8⟩:=row9t HX5.out;simp only [tmV])))
 refine bodyPost_ret (results_c rfl _ _ w.heap.size 63 #[.string k3,.int .i64 t5.kind,.int .i64 t5.num,.string t5.name,.int .i64 t5.lv.kind,.int .i64 t5.lv.num,.slice p5.A t5.lv.kids.length p5.c,.slice p5.B t5.ls.length p5.d,.slice p5.K t5.kids.length p5.e] (0,0) _ rfl (set9 HX5.out) Try.underlying63 rfl (by kernel_rfl)) rfl ?_
 have hz3:=HC3.out.size
 have hz0:=HZ0.out
 have hgl:=HGL.out
 have hz5:=HC5.out.size
 have h05:=chg_trans (Chg.of_below HB0.out) (chg_trans HC3.out HC5.out)
 have hch:=chg_set9 w5 w.heap.size (.string k3) (.int .i64 t5.kind) (.int .i64 t5.num) (.string t5.name) (.int .i64 t5.lv.kind) (.int .i64 t5.lv.num) (.slice p5.A t5.lv.kids.length p5.c) (.slice p5.B t5.ls.length p5.d) (.slice p5.K t5.kids.length p5.e)
 refine ⟨p5,⟨k3,t5⟩,rfl,⟨(HL5.out.same fun k hk _=>hch.block k (by omega) (by omega)).mono fun k hk _=>by omega,HSZ.out⟩,⟨hch.os.trans h05.os,hch.tape.trans h05.tape,hch.output.trans h05.output,Nat.le_trans h05.size hch.size,fun i hi hs=>?_⟩,?_,(ctR_chain s).2 k3 t5 HV3.out HV5.out⟩
 ·rw [hch.block i (Nat.lt_of_lt_of_le hi h05.size) (by omega),h05.block i hi hs]
 ·rw [(ctR_chain s).1];exact HM5.out.chg (S:=fun k=>k=w.heap.size) (fun k e=>by omega) hch
end Go.Proofs.Ytcgkeolgflphiaa

namespace Go.Proofs.Ytcgkeolgflphiaa
open Go.RowKit Go.Proofs.YtcgkeolgflphiaaW.PrintWords Go.RegionInvYtcgkeolgflphiaa Go.RegionEYtcgkeolgflphiaa
set_option linter.unusedVariables false

theorem ct_one (p:Pl) (l:Ct):(#[.string l.nm,.int .i64 l.ty.kind,.int .i64 l.ty.num,.string l.ty.name,.int .i64 l.ty.lv.kind,.int .i64 l.ty.lv.num,.slice p.A l.ty.lv.kids.length p.c,.slice p.B l.ty.ls.length p.d,.slice p.K l.ty.kids.length p.e]:Array Value).all (·.oneCell')=true:=all_one (l:=[.string l.nm,.int .i64 l.ty.kind,.int .i64 l.ty.num,.string l.ty.name,.int .i64 l.ty.lv.kind,.int .i64 l.ty.lv.num,.slice p.A l.ty.lv.kids.length p.c,.slice p.B l.ty.ls.length p.d,.slice p.K l.ty.kids.length p.e]) rfl

def lc_ops:List Oper:=[
 { dst:=some 14,op:=Go.Op.load 63 (Go.Operand.tmp 7),type:=63,pos:= "decl.go:262",after:=#[],guard:=none },
 { dst:=some 15,op:=Go.Op.move (Go.Operand.tmp 0),type:=31,pos:= "decl.go:262",after:=#[],guard:=none },
 { dst:=some 16,op:=Go.Op.call { callee:=Go.Callee.builtin Go.Builtin.len,args:=#[Go.Operand.tmp 15],argTypes:=#[31] },type:=3,pos:= "decl.go:262",after:=#[{ on:=1,ground:=Go.Ground.data }],guard:=none },
 { dst:=some 17,op:=Go.Op.move (Go.Operand.tmp 6),type:=97,pos:= "decl.go:262",after:=#[],guard:=none },
 { dst:=some 18,op:=Go.Op.nilCheck (Go.Operand.tmp 17),type:=0,pos:= "decl.go:262",after:=#[{ on:=3,ground:=Go.Ground.data }],guard:=none },
 { dst:=some 19,op:=Go.Op.fieldAddr 99 (Go.Operand.tmp 18) 0,type:=0,pos:= "decl.go:262",after:=#[{ on:=4,ground:=Go.Ground.data }],guard:=none },
 { dst:=some 20,op:=Go.Op.load 31 (Go.Operand.tmp 19),type:=31,pos:= "decl.go:262",after:=#[{ on:=5,ground:=Go.Ground.data }],guard:=none },
 { dst:=some 21,op:=Go.Op.call { callee:=Go.Callee.builtin Go.Builtin.len,args:=#[Go.Operand.tmp 20],argTypes:=#[31] },type:=3,pos:= "decl.go:262",after:=#[{ on:=6,ground:=Go.Ground.data }],guard:=none },
 { dst:=some 22,op:=Go.Op.binOp Go.BinOp.sub 3 (Go.Operand.tmp 16) (Go.Operand.tmp 21) 3,type:=3,pos:= "decl.go:262",after:=#[{ on:=2,ground:=Go.Ground.data },{ on:=7,ground:=Go.Ground.data },{ on:=13,ground:=Go.Ground.gcOnly Go.Departure.lateStores }],guard:=none },
 { dst:=some 23,op:=Go.Op.move (Go.Operand.tmp 6),type:=97,pos:= "decl.go:262",after:=#[{ on:=14,ground:=Go.Ground.gcOnly Go.Departure.lateStores }],guard:=none },
 { dst:=some 24,op:=Go.Op.nilCheck (Go.Operand.tmp 23),type:=0,pos:= "decl.go:262",after:=#[{ on:=9,ground:=Go.Ground.data },{ on:=14,ground:=Go.Ground.gcOnly Go.Departure.lateStores }],guard:=none },
 { dst:=some 25,op:=Go.Op.fieldAddr 99 (Go.Operand.tmp 24) 3,type:=0,pos:= "decl.go:262",after:=#[{ on:=10,ground:=Go.Ground.data },{ on:=14,ground:=Go.Ground.gcOnly Go.Departure.lateStores }],guard:=none },
 { dst:=some 26,op:=Go.Op.load 32 (Go.Operand.tmp 25),type:=32,pos:= "decl.go:262",after:=#[{ on:=11,ground:=Go.Ground.data },{ on:=14,ground:=Go.Ground.gcOnly Go.Departure.lateStores }],guard:=none },
 { dst:=none,op:=Go.Op.store 63 (Go.Operand.tmp 3) (Go.Operand.tmp 14),type:=0,pos:= "decl.go:262",after:=#[{ on:=0,ground:=Go.Ground.data },{ on:=0,ground:=Go.Ground.phase },{ on:=1,ground:=Go.Ground.textOnly Go.Departure.lateStores },{ on:=2,ground:=Go.Ground.textOnly Go.Departure.lateStoresUnsure },{ on:=3,ground:=Go.Ground.textOnly Go.Departure.lateStores },{ on:=4,ground:=Go.Ground.textOnly Go.Departure.lateStores },{ on:=5,ground:=Go.Ground.textOnly Go.Departure.lateStores },{ on:=6,ground:=Go.Ground.textOnly Go.Departure.lateStores },{ on:=7,ground:=Go.Ground.textOnly Go.Departure.lateStoresUnsure },{ on:=8,ground:=Go.Ground.textOnly Go.Departure.lateStores },{ on:=9,ground:=Go.Ground.textOnly Go.Departure.lateStores },{ on:=10,ground:=Go.Ground.textOnly Go.Departure.lateStores },{ on:=11,ground:=Go.Ground.textOnly Go.Departure.lateStores },{ on:=12,ground:=Go.Ground.textOnly Go.Departure.lateStores }],guard:=none },
 { dst:=some 4,op:=Go.Op.assign (Go.Operand.tmp 22),type:=3,pos:= "decl.go:262",after:=#[{ on:=8,ground:=Go.Ground.data },{ on:=13,ground:=Go.Ground.chain },{ on:=0,ground:=Go.Ground.phase },{ on:=1,ground:=Go.Ground.phase },{ on:=2,ground:=Go.Ground.phase },{ on:=3,ground:=Go.Ground.phase },{ on:=4,ground:=Go.Ground.phase },{ on:=5,ground:=Go.Ground.phase },{ on:=6,ground:=Go.Ground.phase },{ on:=7,ground:=Go.Ground.phase },{ on:=8,ground:=Go.Ground.phase },{ on:=9,ground:=Go.Ground.textOnly Go.Departure.lateStores },{ on:=10,ground:=Go.Ground.textOnly Go.Departure.lateStores },{ on:=11,ground:=Go.Ground.textOnly Go.Departure.lateStores },{ on:=12,ground:=Go.Ground.textOnly Go.Departure.lateStores },{ on:=13,ground:=Go.Ground.phase }],guard:=none },
 { dst:=some 5,op:=Go.Op.assign (Go.Operand.tmp 26),type:=32,pos:= "decl.go:262",after:=#[{ on:=12,ground:=Go.Ground.data },{ on:=14,ground:=Go.Ground.chain },{ on:=0,ground:=Go.Ground.phase },{ on:=1,ground:=Go.Ground.phase },{ on:=2,ground:=Go.Ground.phase },{ on:=3,ground:=Go.Ground.phase },{ on:=4,ground:=Go.Ground.phase },{ on:=5,ground:=Go.Ground.phase },{ on:=6,ground:=Go.Ground.phase },{ on:=7,ground:=Go.Ground.phase },{ on:=8,ground:=Go.Ground.phase },{ on:=9,ground:=Go.Ground.phase },{ on:=10,ground:=Go.Ground.phase },{ on:=11,ground:=Go.Ground.phase },{ on:=12,ground:=Go.Ground.phase },{ on:=13,ground:=Go.Ground.phase },{ on:=14,ground:=Go.Ground.phase }],guard:=none }]
def lc_F (w0:World) (gR gx gi n n6 c c6:Nat) (A A6:Option Addr) (N6 m6 er:Int) (p:Pl) (l:Ct):Nat→(Nat→Value)→Value→World→(Nat→Prop)→Prop:=fun rix=>match rix with
 | 0=>fun _ v _ _=>v=ctV p l
 | 1=>fun _ v _ _=>v=.slice A n c
 | 2=>fun _ v _ _=>v=.int .i64 n
 | 3=>fun _ v _ _=>v=.pointer (some ⟨gi,0,none⟩)
 | 4=>fun _ v _ _=>v=.pointer (some ⟨gi,0,none⟩)
 | 5=>fun _ v _ _=>v=.pointer (some ⟨gi,0,none⟩)
 | 6=>fun _ v _ _=>v=.slice A6 n6 c6
 | 7=>fun _ v _ _=>v=.int .i64 n6
 | 8=>fun _ v _ _=>v=.int .i64 (IntKind.i64.wrap ((n:Int) - n6))
 | 9=>fun _ v _ _=>v=.pointer (some ⟨gi,0,none⟩)
 | 10=>fun _ v _ _=>v=.pointer (some ⟨gi,0,none⟩)
 | 11=>fun _ v _ _=>v=.pointer (some ⟨gi,3,none⟩)
 | 12=>fun _ v _ _=>v=.int .i64 er
 | 13=>fun τ v w O=>w.heap[gR]?=some (ctO p l)∧O gR
 | 14=>fun _ v _ _=>v=.int .i64 (IntKind.i64.wrap ((n:Int) - n6))
 | 15=>fun _ v _ _=>v=.int .i64 er
 | _=>fun _ _ _ _=>True
def lc_C:Nat→List Nat:=fun rix=>match rix with
 | _=>[]
theorem lc_nw0:nwB lc_ops.toArray 0=true:=by kernel_rfl
theorem lc_nw3:nwB lc_ops.toArray 3=true:=by kernel_rfl
theorem lc_nw6:nwB lc_ops.toArray 6=true:=by kernel_rfl
theorem lc_nw7:nwB lc_ops.toArray 7=true:=by kernel_rfl
set_option maxRecDepth 100000 in
set_option maxHeartbeats 8000000 in
theorem lc_obs (w0:World) (gR gx gi n n6 c c6:Nat) (A A6:Option Addr) (N6 m6 er:Int) (p:Pl) (l:Ct) (hR:w0.heap[gR]?=some czO) (hX:w0.heap[gx]?=some (ctO p l)) (hI:w0.heap[gi]?=some (rdB A6 n6 c6 N6 m6 er)) (hn1:gx≠gR) (hn2:gi≠gR) (Q:Exit→Act→World→Prop) (a0:Act) (hi0:a0.tmps.getD 0 undef=.slice A n c) (hi3:a0.tmps.getD 3 undef=.pointer (some ⟨gR,0,none⟩)) (hi4:a0.tmps.getD 4 undef=.int .i64 0) (hi5:a0.tmps.getD 5 undef=.int .i64 0) (hi6:a0.tmps.getD 6 undef=.pointer (some ⟨gi,0,none⟩)) (hi7:a0.tmps.getD 7 undef=.pointer (some ⟨gx,0,none⟩)) :
  ObsE Try.prog lc_ops.toArray Q (est2 13 0 (fun k=>k=gR) (fun _=>False)) lc_C (lc_F w0 gR gx gi n n6 c c6 A A6 N6 m6 er p l) a0 w0 lc_ops.toArray.toList 0:=by
 have nw0:=lc_nw0
 have nw3:=lc_nw3
 have nw6:=lc_nw6
 have nw7:=lc_nw7
 refine ⟨?_,?_,?_,?_,?_,?_,?_,?_,?_,?_,?_,?_,?_,?_,?_,?_,trivial⟩
 ·refine ⟨⟨fun τ=>stableE_det _,leans_not⟩,?_⟩
  intro a w O hk
  have e7:a.eval (.tmp 7)=.pointer (some ⟨gx,0,none⟩):=(hk.init 7 (initialB_of_nw nw7)).trans hi7
  have xX:=(hk.fix gx (est2_fix (blk_lt hX) (fun e=>hn1 e) (fun e=>e))).trans hX
  exact obE_loadRow rfl e7 xX Try.underlying63 rfl (by kernel_rfl) (wanted_none rfl) rfl
 ·refine ⟨⟨fun τ=>stableE_det _,leans_not⟩,?_⟩
  intro a w O hk
  have e0:a.eval (.tmp 0)=.slice A n c:=(hk.init 0 (initialB_of_nw nw0)).trans hi0
  exact toE (ob_move rfl e0 (wanted_none rfl) rfl)
 ·refine ⟨⟨fun τ=>stableE_det _,leans_not⟩,?_⟩
  intro a w O hk
  have e15:a.eval (.tmp 15)=.slice A n c:=hk.fact 1 _ 15 rfl rfl rfl rfl
  exact toE (ob_len rfl e15 Try.underlying31 (wanted_none rfl) rfl)
 ·refine ⟨⟨fun τ=>stableE_det _,leans_not⟩,?_⟩
  intro a w O hk
  have e6:a.eval (.tmp 6)=.pointer (some ⟨gi,0,none⟩):=(hk.init 6 (initialB_of_nw nw6)).trans hi6
  exact toE (ob_move rfl e6 (wanted_none rfl) rfl)
 ·refine ⟨⟨fun τ=>stableE_det _,leans_not⟩,?_⟩
  intro a w O hk
  have e17:a.eval (.tmp 17)=.pointer (some ⟨gi,0,none⟩):=hk.fact 3 _ 17 rfl rfl rfl rfl
  exact obE_run (wanted_none rfl) (by unfold execOp;simp only [];rw [e17];go_simp) rfl
 ·refine ⟨⟨fun τ=>stableE_det _,leans_not⟩,?_⟩
  intro a w O hk
  have e18:a.eval (.tmp 18)=.pointer (some ⟨gi,0,none⟩):=hk.fact 4 _ 18 rfl rfl rfl rfl
  exact obE_run (wanted_none rfl) (by unfold execOp;simp only [];rw [e18];go_simp) rfl
 ·refine ⟨⟨fun τ=>stableE_det _,leans_not⟩,?_⟩
  intro a w O hk
  have e19:a.eval (.tmp 19)=.pointer (some ⟨gi,0,none⟩):=hk.fact 5 _ 19 rfl rfl rfl rfl
  have xI:=(hk.fix gi (est2_fix (blk_lt hI) (fun e=>hn2 e) (fun e=>e))).trans hI
  have c0:=(row4 xI).1
  exact toE (ob_loadSlice rfl e19 Try.underlying31 c0 (wanted_none rfl) rfl)
 ·refine ⟨⟨fun τ=>stableE_det _,leans_not⟩,?_⟩
  intro a w O hk
  have e20:a.eval (.tmp 20)=.slice A6 n6 c6:=hk.fact 6 _ 20 rfl rfl rfl rfl
  exact toE (ob_len rfl e20 Try.underlying31 (wanted_none rfl) rfl)
 ·refine ⟨⟨fun τ=>stableE_det _,leans_not⟩,?_⟩
  intro a w O hk
  have e16:a.eval (.tmp 16)=.int .i64 n:=hk.fact 2 _ 16 rfl rfl rfl rfl
  have e21:a.eval (.tmp 21)=.int .i64 n6:=hk.fact 7 _ 21 rfl rfl rfl rfl
  exact obE_run (wanted_none rfl) (by unfold execOp;simp only [];rw [e16,e21];go_simp) rfl
 ·refine ⟨⟨fun τ=>stableE_det _,leans_not⟩,?_⟩
  intro a w O hk
  have e6:a.eval (.tmp 6)=.pointer (some ⟨gi,0,none⟩):=(hk.init 6 (initialB_of_nw nw6)).trans hi6
  exact toE (ob_move rfl e6 (wanted_none rfl) rfl)
 ·refine ⟨⟨fun τ=>stableE_det _,leans_not⟩,?_⟩
  intro a w O hk
  have e23:a.eval (.tmp 23)=.pointer (some ⟨gi,0,none⟩):=hk.fact 9 _ 23 rfl rfl rfl rfl
  exact obE_run (wanted_none rfl) (by unfold execOp;simp only [];rw [e23];go_simp) rfl
 ·refine ⟨⟨fun τ=>stableE_det _,leans_not⟩,?_⟩
  intro a w O hk
  have e24:a.eval (.tmp 24)=.pointer (some ⟨gi,0,none⟩):=hk.fact 10 _ 24 rfl rfl rfl rfl
  exact obE_run (wanted_none rfl) (by unfold execOp;simp only [];rw [e24];go_simp) rfl
 ·refine ⟨⟨fun τ=>stableE_det _,leans_not⟩,?_⟩
  intro a w O hk
  have e25:a.eval (.tmp 25)=.pointer (some ⟨gi,3,none⟩):=hk.fact 11 _ 25 rfl rfl rfl rfl
  have xI:=(hk.fix gi (est2_fix (blk_lt hI) (fun e=>hn2 e) (fun e=>e))).trans hI
  have c3:=(row4 xI).2.2.2.1
  exact obE_run (wanted_none rfl) (by unfold execOp;simp only [];rw [e25];go_simp) rfl
 ·refine ⟨⟨fun τ=>(fun v w w' O h hz hk=>⟨(hk gR (blk_lt h.1) (.inr h.2)).trans h.1,h.2⟩),leans_not⟩,?_⟩
  intro a w O hk
  have e3:a.eval (.tmp 3)=.pointer (some ⟨gR,0,none⟩):=(hk.init 3 (initialB_of_nw nw3)).trans hi3
  have e14:a.eval (.tmp 14)=ctV p l:=hk.fact 0 _ 14 rfl rfl rfl rfl
  have xR:=(hk.est 13 _ rfl (.inl rfl) gR (.inl ⟨rfl,rfl⟩)).trans hR
  have hs:=run_storeVar_row (P:=Try.prog) w gR 63 63 _ #[.string l.nm,.int .i64 l.ty.kind,.int .i64 l.ty.num,.string l.ty.name,.int .i64 l.ty.lv.kind,.int .i64 l.ty.lv.num,.slice p.A l.ty.lv.kids.length p.c,.slice p.B l.ty.ls.length p.d,.slice p.K l.ty.kids.length p.e] xR (by kernel_rfl) rfl (ct_one p l)
  refine obE_store (w':=w.setRow gR #[.string l.nm,.int .i64 l.ty.kind,.int .i64 l.ty.num,.string l.ty.name,.int .i64 l.ty.lv.kind,.int .i64 l.ty.lv.num,.slice p.A l.ty.lv.kids.length p.c,.slice p.B l.ty.ls.length p.d,.slice p.K l.ty.kids.length p.e]) (fun k=>k=gR) (wanted_none rfl) (by unfold execOp;simp only [];rw [e3,e14];simp only [ctV,Instr.storeAt,Instr.sureAddr,Sem.run_bind,Sem.run_pure,Result.andThen_ok,hs]) ⟨rfl,rfl,rfl,Nat.le_of_eq (size_setRow _ _ _).symm,fun k _ hn=>setRow_other w gR k _ (fun e=>hn (.inr (.inl ⟨rfl,e⟩)))⟩ ⟨setRow_heap w gR _ _ _ _ xR,rfl⟩ (fun k h=>.inl (.inr (.inl ⟨rfl,h⟩)))
 ·refine ⟨⟨fun τ=>stableE_det _,leans_not⟩,?_⟩
  intro a w O hk
  have e22:a.eval (.tmp 22)=.int .i64 (IntKind.i64.wrap ((n:Int) - n6)):=hk.fact 8 _ 22 rfl rfl rfl rfl
  exact toE (ob_assign rfl e22 (wanted_none rfl) rfl)
 ·refine ⟨⟨fun τ=>stableE_det _,leans_not⟩,?_⟩
  intro a w O hk
  have e26:a.eval (.tmp 26)=.int .i64 er:=hk.fact 12 _ 26 rfl rfl rfl rfl
  exact toE (ob_assign rfl e26 (wanted_none rfl) rfl)
set_option maxRecDepth 100000 in
set_option maxHeartbeats 8000000 in
theorem lc_region {Q:Exit→Act→World→Prop} {id:Nat} (w0:World) (gR gx gi n n6 c c6:Nat) (A A6:Option Addr) (N6 m6 er:Int) (p:Pl) (l:Ct) {s1 s2 s8 s9 s10 s11 s12 s13 s14 s15 s16 s17 s18 s19 s20 s21 s22 s23 s24 s25 s26:Value} (hR:w0.heap[gR]?=some czO) (hX:w0.heap[gx]?=some (ctO p l)) (hI:w0.heap[gi]?=some (rdB A6 n6 c6 N6 m6 er)) (hn1:gx≠gR) (hn2:gi≠gR)
  (hend:∀ (w':World) (v13:Value) (O13:Nat→Prop),Chg (fun k=>(fun k=>k=gR) k∨(fun _=>False) k) w0 w'→(w'.heap[gR]?=some (ctO p l)∧O13 gR)→(∀ k,O13 k→k<w'.heap.size∧¬ Fix w0 (est2 13 0 (fun k=>k=gR) (fun _=>False)) k)→Q .normal { tmps:=((.slice A n c) :: s1 :: s2 :: (.pointer (some ⟨gR,0,none⟩)) :: (.int .i64 (IntKind.i64.wrap ((n:Int) - n6))) :: (.int .i64 er) :: (.pointer (some ⟨gi,0,none⟩)) :: (.pointer (some ⟨gx,0,none⟩)) :: s8 :: s9 :: s10 :: s11 :: s12 :: s13 :: (ctV p l) :: (.slice A n c) :: (.int .i64 n) :: (.pointer (some ⟨gi,0,none⟩)) :: (.pointer (some ⟨gi,0,none⟩)) :: (.pointer (some ⟨gi,0,none⟩)) :: (.slice A6 n6 c6) :: (.int .i64 n6) :: (.int .i64 (IntKind.i64.wrap ((n:Int) - n6))) :: (.pointer (some ⟨gi,0,none⟩)) :: (.pointer (some ⟨gi,0,none⟩)) :: (.pointer (some ⟨gi,3,none⟩)) :: (.int .i64 er) :: []:List Value).toArray,defers:=[] } w') :
  (Code.region id lc_ops.toArray true).wp Try.prog Q { tmps:=((.slice A n c) :: s1 :: s2 :: (.pointer (some ⟨gR,0,none⟩)) :: (.int .i64 0) :: (.int .i64 0) :: (.pointer (some ⟨gi,0,none⟩)) :: (.pointer (some ⟨gx,0,none⟩)) :: s8 :: s9 :: s10 :: s11 :: s12 :: s13 :: s14 :: s15 :: s16 :: s17 :: s18 :: s19 :: s20 :: s21 :: s22 :: s23 :: s24 :: s25 :: s26 :: []:List Value).toArray,defers:=[] } w0:=by
 refine wp_region_est (by kernel_rfl) (est2 13 0 (fun k=>k=gR) (fun _=>False)) lc_C (lc_F w0 gR gx gi n n6 c c6 A A6 N6 m6 er p l) (est2_dis (fun _ _ h=>h)) (est2_range (fun k hk=>hk ▸ blk_lt hR) (fun _ h=>h.elim)) (by rfl) (by kernel_rfl) (lc_obs w0.drew gR gx gi n n6 c c6 A A6 N6 m6 er p l hR hX hI hn1 hn2 _ _ rfl rfl rfl rfl rfl rfl) ?_
 intro a w' O hd hs hb hf hf2 ha hsame
 have hl:=slots_eq (ops:=lc_ops.toArray) [(4,.int .i64 (IntKind.i64.wrap ((n:Int) - n6))),(5,.int .i64 er),(14,ctV p l),(15,.slice A n c),(16,.int .i64 n),(17,.pointer (some ⟨gi,0,none⟩)),(18,.pointer (some ⟨gi,0,none⟩)),(19,.pointer (some ⟨gi,0,none⟩)),(20,.slice A6 n6 c6),(21,.int .i64 n6),(22,.int .i64 (IntKind.i64.wrap ((n:Int) - n6))),(23,.pointer (some ⟨gi,0,none⟩)),(24,.pointer (some ⟨gi,0,none⟩)),(25,.pointer (some ⟨gi,3,none⟩)),(26,.int .i64 er)] (show a.tmps.size=27 from hs) (fun i h=>hsame i h) ⟨(hf 14 _ 4 rfl rfl (by decide)).1,(hf 15 _ 5 rfl rfl (by decide)).1,(hf 0 _ 14 rfl rfl (by decide)).1,(hf 1 _ 15 rfl rfl (by decide)).1,(hf 2 _ 16 rfl rfl (by decide)).1,(hf 3 _ 17 rfl rfl (by decide)).1,(hf 4 _ 18 rfl rfl (by decide)).1,(hf 5 _ 19 rfl rfl (by decide)).1,(hf 6 _ 20 rfl rfl (by decide)).1,(hf 7 _ 21 rfl rfl (by decide)).1,(hf 8 _ 22 rfl rfl (by decide)).1,(hf 9 _ 23 rfl rfl (by decide)).1,(hf 10 _ 24 rfl rfl (by decide)).1,(hf 11 _ 25 rfl rfl (by decide)).1,(hf 12 _ 26 rfl rfl (by decide)).1,trivial⟩ (by kernel_rfl)
 obtain ⟨tmps,defers⟩:=a
 obtain rfl:defers=[]:=hd
 have hl':tmps=_:=hl
 rw [hl']
 obtain ⟨⟨v13,hv13⟩,ho13⟩:=hf2 13 _ rfl rfl (by decide)
 have hb':=est2_chg hb
 refine Eq.mp ?_ (hend w' v13 (O 13) ⟨hb'.os,hb'.tape,hb'.output,hb'.size,hb'.block⟩ hv13 ho13)
 kernel_rfl

end Go.Proofs.Ytcgkeolgflphiaa

namespace Go.Proofs.Ytcgkeolgflphiaa
open Go.RowKit Go.Proofs.YtcgkeolgflphiaaW.PrintWords Go.RegionInvYtcgkeolgflphiaa

theorem took_of2 {α:Type} {x:α} {b:α→List Int} {w5:World} {g n n6 c:Nat} {A:Option Addr} {er:Int} {xs:List Int} {R:Except Int (α × List Int)} (h2:∀ t r,R=.ok (t,r)→xs=b t ++ r) (hb:∀ t,1≤(b t).length) (hn:xs.length=n) (hl:n≤140737488355000) (h:BoxOf w5 g A n6 c er (restR R)) (hv:valIs x R):TookP x (IntKind.i64.wrap ((n:Int) - n6)) er xs R:=by
 cases R with
 | error k=>exact h
 | ok y =>
  obtain ⟨t,r⟩:=y
  have e2:=h2 t r rfl
  have e3:=hb t
  obtain ⟨he,hr⟩:=h
  have hr:=hr.reads.1
  have hlen:=congrArg List.length e2
  rw [List.length_append] at hlen
  refine ⟨hv,he,n - n6,?_,by omega,by omega,?_⟩
  ·rw [IntWalk.i64_in _ (by omega)];omega
  ·rw [← hr,← hn];exact suffix_drop e2
theorem ctB_pos1 (c:Ct):1≤(ctB c).length:=by
 unfold ctB
 have:∀ t,1≤(tmB t).length:=fun t=>by obtain ⟨k,n,nm,lv,ls,ks⟩:=t;rw [tmB];simp only [List.length_append,List.length_cons,List.length_nil];omega
 have:=this c.ty
 rw [List.length_append];omega
set_option maxHeartbeats 4000000 in
theorem listCt_calls (gf:Nat) (A:Option Addr) (n c:Nat) (xs:List Int) (w:World) (h:Bs w w.heap.size A n c xs) (hf:w.heap[gf]?=some (.cells #[.func (.func 91) #[] #[]] 114 (0,0))) :
  Calls Try.prog 109 #[.slice A n c,.pointer (some ⟨gf,0,none⟩)] w (TakeP eCt ctV (ctR xs) xs w):=by
 have HS:=Ak h
 have HR1:=Ak (bs_new (O1:=czO) (N:=0) (m:=0) h)
 have hb1:=below_alloc (below_alloc (Below.refl w.heap.size w) czO) (rdB A n c 0 0 0)
 have HF1:=Ak (blk_below hf hb1)
 have HX1:=Ak (blk_alloc (blk_new w czO) (rdB A n c 0 0 0))
 have HB1:=Ak hb1
 have HZ1:=Ak (show ((w.alloc czO).alloc (rdB A n c 0 0 0)).heap.size=w.heap.size+2 by simp)
 clear h hf hb1
 go_enter Try.func109,Try.ntmps109
 go_upto_region 2 with (fail)
 obtain ⟨W1,hW1⟩:∃ W1,W1=(w.alloc czO).alloc (rdB A n c 0 0 0):=⟨_,rfl⟩
 rw [← hW1] at HR1 HF1 HX1 HB1 HZ1 ⊢
 clear hW1
 have f0:W1.cell? ⟨gf,0,none⟩=some (.func (.func 91) #[] #[]):=by rw [cell_of_row _ _ _ _ _ _ HF1.out];rfl
 go_upto_region 3 with (go_at_call 91;go_must (refine (ctor_any (w.heap.size+1) (.ok xs) _ ⟨0,0,HR1.out⟩).mono ?_;rintro e w5 ⟨p5,l5,rfl,hl5,hc5,hm5,hv5⟩;have HV5:=Ak hv5;have HX5:=Ak ((hc5.block _ (blk_lt HX1.out) (by omega)).trans HX1.out);have HL5:=Ak hl5;have HC5:=Ak hc5;have HM5:=Ak (RS.box hm5);clear hl5 hc5 hm5 hv5;simp only [ctV]))
 obtain ⟨A6,n6,c6,N6,m6,er,hg6,hsem⟩:=HM5.out
 have HG6:=Ak (blk_alloc hg6 (ctO p5 l5))
 have HSEM:=Ak hsem
 have HX6:=Ak (blk_alloc HX5.out (ctO p5 l5))
 have HY6:=Ak (blk_new w5 (ctO p5 l5))
 have HC6:=Ak (chg_trans HC5.out (Chg.of_below (below_alloc (Below.refl _ _) (ctO p5 l5))))
 have HL6:=Ak (eCt.same (w':=w5.alloc (ctO p5 l5)) (p:=p5) HL5.out fun k _ hk=>(below_alloc (Below.refl _ _) (ctO p5 l5)).block k hk)
 obtain ⟨gx,hgx⟩:∃ gx,gx=w5.heap.size:=⟨_,rfl⟩
 obtain ⟨W6,hW6⟩:∃ W6,W6=w5.alloc (ctO p5 l5):=⟨_,rfl⟩
 have HGX:=Ak (show gx≠w.heap.size by have:=blk_lt HX5.out;omega)
 rw [← hgx] at HY6 ⊢
 rw [← hW6] at HG6 HX6 HY6 HC6 HL6 ⊢
 clear hg6 hsem f0 hgx hW6 HX5 HL5 HC5 HM5
 refine lc_region W6 w.heap.size gx (w.heap.size+1) n n6 c c6 A A6 N6 m6 er p5 l5 HX6.out HY6.out HG6.out (HGX.out) (by omega) ?_
 intro w7 v13 O13 hch hx7 hO
 have HX7:=Ak hx7.1
 have HC7:=Ak (hch.mono (S':=fun k=>k=w.heap.size) fun k h=>h.elim id False.elim)
 clear hch hx7 hO
 go_wp2
 refine bodyPost_ret (results_ctt rfl _ _ w.heap.size 63 #[.string l5.nm,.int .i64 l5.ty.kind,.int .i64 l5.ty.num,.string l5.ty.name,.int .i64 l5.ty.lv.kind,.int .i64 l5.ty.lv.num,.slice p5.A l5.ty.lv.kids.length p5.c,.slice p5.B l5.ty.ls.length p5.d,.slice p5.K l5.ty.kids.length p5.e] (0,0) _ rfl HX7.out Try.underlying63 rfl (by kernel_rfl)) rfl ?_
 exact ⟨p5,l5,_,_,rfl,close_mem eCt (p:=p5) HL6.out HZ1.out HC7.out,close_below HB1.out HZ1.out HC6.out HC7.out,took_of2 (b:=ctB) (fun t r hk=>ct_put HS.out.bytes hk) ctB_pos1 HS.out.reads.1 HS.out.len HSEM.out HV5.out⟩
end Go.Proofs.Ytcgkeolgflphiaa

namespace Go.Proofs.Ytcgkeolgflphiaa
open Go.RowKit Go.Proofs.YtcgkeolgflphiaaW.PrintWords Go.RegionInvYtcgkeolgflphiaa

theorem infoCtD:(Try.prog.info? 63).map (fun i=>(i.zero,i.size,i.bytes))=some (some (.agg #[.string ⟨#[]⟩,.int .i64 0,.int .i64 0,.string ⟨#[]⟩,.int .i64 0,.int .i64 0,.slice none 0 0,.slice none 0 0,.slice none 0 0]),9,136):=by kernel_rfl
theorem notNil_takeCt (gf:Nat) (W:World):(binOp .eql 133 (.func (.func 109) #[] #[.pointer (some ⟨gf,0,none⟩)]) .nilFunc).run Try.prog W=.ok (.bool false) W:=by kernel_rfl
set_option maxRecDepth 100000 in
set_option maxHeartbeats 8000000 in
theorem takeCt_calls (gf:Nat) (A:Option Addr) (n c:Nat) (xs:List Int) (most:Int) (w:World) (h:Bs w w.heap.size A n c xs) (hm0:0≤most) (hm1:most≤16) (hf:w.heap[gf]?=some (.cells #[.func (.func 91) #[] #[]] 114 (0,0))) :
  Calls Try.prog 108 #[.slice A n c,.int .i64 most,.func (.func 109) #[] #[.pointer (some ⟨gf,0,none⟩)]] w (TakeLP eCt (listR most ctR xs) xs w):=by
 have HS:=Ak h
 have hnil:=notNil_takeCt gf
 have hlen:=h.len
 have hxn:=h.reads.1
 have HF:=Ak hf
 clear hf
 go_enter Try.func108,Try.ntmps108
 rcases takeN_cases h.bytes with hT | hT | ⟨m,k,hT,hm,hk1,hk2⟩
 ·have HE:=Ak (listR_short (most:=most) (f:=ctR) hT (by decide))
  have HT:=Ak hT
  clear hT h hxn
  go_wp2_with (go_at_call 75;go_must (refine (take_calls _ _ _ xs _ HS.out.reads HS.out.bytes hlen).mono ?_;rintro e w' ⟨rfl,hw⟩;obtain rfl:w=w':=hw.symm;rw [HT.out]))
  go_ret3
  exact takeLP_err HE.out (by decide) (Below.refl _ _)
 ·have HE:=Ak (listR_short (most:=most) (f:=ctR) hT (by decide))
  have HT:=Ak hT
  clear hT h hxn
  go_wp2_with (go_at_call 75;go_must (refine (take_calls _ _ _ xs _ HS.out.reads HS.out.bytes hlen).mono ?_;rintro e w' ⟨rfl,hw⟩;obtain rfl:w=w':=hw.symm;rw [HT.out]))
  go_ret3
  exact takeLP_err HE.out (by decide) (Below.refl _ _)
 ·have HT:=Ak hT
  by_cases hlong:most<m
  ·have HE:=Ak (listR_many (f:=ctR) hT hlong)
   clear hT h hxn
   go_wp2_with (go_at_call 75;go_must (refine (take_calls _ _ _ xs _ HS.out.reads HS.out.bytes hlen).mono ?_;rintro e w' ⟨rfl,hw⟩;obtain rfl:w=w':=hw.symm;rw [HT.out]))
   go_ret3
   exact takeLP_err HE.out (by decide) (Below.refl _ _)
  ·have h1:(m:Int)≤most:=by omega
   have HE:=Ak (listR_ok (f:=ctR) hT hlong)
   have hk3:k≤n:=by omega
   have HXN:=Ak hxn
   clear hT h hlong hxn
   go_wp2_with (go_at_call 75;go_must (refine (take_calls _ _ _ xs _ HS.out.reads HS.out.bytes hlen).mono ?_;rintro e w' ⟨rfl,hw⟩;obtain rfl:w=w':=hw.symm;rw [HT.out]))
   go_loopw [9,10,12] (fun u p v wr=>∃ (r at_:Nat) (acc:List Ct),u=.int .u64 r∧p=.int .i64 at_∧r+acc.length≤16∧1≤at_∧at_≤n∧Aside0 (listR most ctR xs=moreR acc (manyR ctR r (xs.drop at_)))∧Aside0 (RowG eCt wr w.heap.size v acc)∧Aside0 (Below w.heap.size w wr)) (fun u _ _ _=>(intOf u).toNat)
   case atStart=>exact ⟨m,k,[],rfl,rfl,by simp;omega,hk1,hk3,HE,⟨RowG.nil _ _ _⟩,⟨Below.refl _ _⟩⟩
   case round =>
    clear HE HT
    obtain ⟨r,at_,acc,rfl,rfl,hr16,hat1,hat,HE,HO,HB⟩:=hrel
    rcases r with _ | r
    ·have HE2:=Ak (show listR most ctR xs=.ok (acc,xs.drop at_) from HE.out.trans moreR_end)
     go_wp2
     go_ret3
     exact ⟨u12,acc,at_,0,rfl,HO.out,HB.out,by rw [HE2.out];exact ⟨rfl,rfl,at_,rfl,hat1,by have:=HXN.out;omega,rfl⟩⟩
    ·obtain ⟨A',hcut,hrd⟩:=cut_old (A:=A) (n:=n) (c:=c) at_ hat
     have HRD:=Ak (hrd wr wr.heap.size xs ((HS.out.chg (S:=fun k=>w.heap.size≤k) (Nat.le_refl _) (fun _ h=>h) (chg_of_base HB.out)).mono HB.out.size))
     have hr1:(((r+1:Nat):Int) == 0)=false:=by simp;omega
     clear hrd
     go_upto_region 12 with (first
      | (go_at_call 109;go_must (refine (listCt_calls gf A' (n - at_) (c - at_) (xs.drop at_) _ HRD.out ((HB.out.block _ (blk_lt HF.out)).trans HF.out)).mono ?_;rintro e w2 ⟨p,l5,cnt,er,rfl,hmem,hb,htk⟩;obtain ⟨p1,hp1⟩:∃ p1,p1=p:=⟨_,rfl⟩;subst hp1;have HMEM:=Ak hmem;have HB2:=Ak hb;have HTK:=Ak htk;clear hmem hb htk;simp only [ctV])))
     have hbx:(w2.alloc (.cells #[.string l5.nm,.int .i64 l5.ty.kind,.int .i64 l5.ty.num,.string l5.ty.name,.int .i64 l5.ty.lv.kind,.int .i64 l5.ty.lv.num,.slice p1.A l5.ty.lv.kids.length p1.c,.slice p1.B l5.ty.ls.length p1.d,.slice p1.K l5.ty.kids.length p1.e] 63 (0,0))).heap[w2.heap.size]?=some (.cells #[.string l5.nm,.int .i64 l5.ty.kind,.int .i64 l5.ty.num,.string l5.ty.name,.int .i64 l5.ty.lv.kind,.int .i64 l5.ty.lv.num,.slice p1.A l5.ty.lv.kids.length p1.c,.slice p1.B l5.ty.ls.length p1.d,.slice p1.K l5.ty.kids.length p1.e] 63 (0,0))∧Below w2.heap.size w2 (w2.alloc (.cells #[.string l5.nm,.int .i64 l5.ty.kind,.int .i64 l5.ty.num,.string l5.ty.name,.int .i64 l5.ty.lv.kind,.int .i64 l5.ty.lv.num,.slice p1.A l5.ty.lv.kids.length p1.c,.slice p1.B l5.ty.ls.length p1.d,.slice p1.K l5.ty.kids.length p1.e] 63 (0,0))):=⟨blk_new _ _,below_alloc (Below.refl _ _) _⟩
     have hb2:=below_then HB2.out HB2.out.size hbx.2
     have HY:=Ak hbx.1
     have HB3:=Ak (show Below w.heap.size w (w2.alloc (.cells #[.string l5.nm,.int .i64 l5.ty.kind,.int .i64 l5.ty.num,.string l5.ty.name,.int .i64 l5.ty.lv.kind,.int .i64 l5.ty.lv.num,.slice p1.A l5.ty.lv.kids.length p1.c,.slice p1.B l5.ty.ls.length p1.d,.slice p1.K l5.ty.kids.length p1.e] 63 (0,0))) from below_then HB.out HB.out.size hb2)
     have HO3:=Ak (RowG.later HO.out hb2)
     have HM3:=Ak (eCt.beside HO.out HB.out.size (eCt.same (w':=w2.alloc (.cells #[.string l5.nm,.int .i64 l5.ty.kind,.int .i64 l5.ty.num,.string l5.ty.name,.int .i64 l5.ty.lv.kind,.int .i64 l5.ty.lv.num,.slice p1.A l5.ty.lv.kids.length p1.c,.slice p1.B l5.ty.ls.length p1.d,.slice p1.K l5.ty.kids.length p1.e] 63 (0,0))) HMEM.out fun k hk hz=>hbx.2.block k hz))
     obtain ⟨gx,hgx⟩:∃ gx,gx=w2.heap.size:=⟨_,rfl⟩
     obtain ⟨W3,hW3⟩:∃ W3,W3=w2.alloc (.cells #[.string l5.nm,.int .i64 l5.ty.kind,.int .i64 l5.ty.num,.string l5.ty.name,.int .i64 l5.ty.lv.kind,.int .i64 l5.ty.lv.num,.slice p1.A l5.ty.lv.kids.length p1.c,.slice p1.B l5.ty.ls.length p1.d,.slice p1.K l5.ty.kids.length p1.e] 63 (0,0)):=⟨_,rfl⟩
     rw [← hW3] at HY HB3 HO3 HM3 ⊢
     rw [← hgx] at HY ⊢
     clear hbx hb2
     clear hgx hW3 HMEM HB2 HRD hcut
     obtain ⟨⟨d0,d1,d2,d3,d4,d5,d6,d7,d8⟩,-⟩:=row9t HY.out
     cases hf1:ctR (xs.drop at_) with
     | error ee =>
      have htk:=HTK.out
      rw [hf1] at htk
      obtain ⟨rfl,hne⟩:=htk
      have hne':(er != 0)=true:=by simp [hne]
      have HK:=Ak (HE.out.trans (moreR_bad hf1))
      have HNE:=Ak hne
      clear hf1 hne HTK
      go_wp2
      go_ret3
      exact takeLP_err HK.out HNE.out HB3.out
     | ok y =>
      obtain ⟨x',r'⟩:=y
      have htk:=HTK.out
      rw [hf1] at htk
      obtain ⟨hxx,rfl,u,rfl,hu1,hu2,hrr⟩:=htk
      subst hxx
      have HK:=Ak (HE.out.trans (moreR_next hf1))
      have hu3:at_+u≤n:=by have:=HXN.out;rw [List.length_drop] at hu2;omega
      have HRR:=Ak (show r'=xs.drop (at_+u) by rw [hrr,List.drop_drop])
      obtain ⟨cs,q,hown,hcs⟩:=HO3.out
      have HOWN:=Ak hown
      have HCS:=Ak hcs
      clear hf1 HTK hown hcs hrr hu2
      go_wp2_with (first | (at_builtin;go_must (refine print_append_cells (w0:=W3) w.heap.size rfl (.tmp 65) (.tmp 67) 28 63 _ 9 136 rfl Try.underlying28 infoCtD rfl (by decide) (by decide) u12 acc.length cs [.string l5.nm,.int .i64 l5.ty.kind,.int .i64 l5.ty.num,.string l5.ty.name,.int .i64 l5.ty.lv.kind,.int .i64 l5.ty.lv.num,.slice p1.A l5.ty.lv.kids.length p1.c,.slice p1.B l5.ty.ls.length p1.d,.slice p1.K l5.ty.kids.length p1.e] rfl rfl rfl (List.all_eq_true.1 rfl) HOWN.out (Below.refl _ _) HB3.out.size (by omega) ?_;intro v3 w3 ho hb hg hat;have HO4:=Ak (RowG.push (E:=eCt) HOWN.out HCS.out HM3.out ho hg hat);have HB4:=Ak (HB3.out.trans hb);clear ho hb hg hat)))
      go_roundw
      case rel=>exact ⟨r,at_+u,acc ++ [l5],by go_num,by go_num,by simp only [List.length_append,List.length_singleton];omega,by omega,hu3,⟨by rw [HK.out,HRR.out]⟩,HO4,HB4⟩
      case measure=>(simp [intOf];try omega)
end Go.Proofs.Ytcgkeolgflphiaa

namespace Go.Proofs.Ytcgkeolgflphiaa
open Go.RowKit Go.Proofs.YtcgkeolgflphiaaW.PrintWords Go.RegionInvYtcgkeolgflphiaa

set_option maxHeartbeats 4000000 in
theorem listOfCt_bad (g:Nat) (er most:Int) (w:World) (h:RdBad w g er) (he:er≠0) :
  Calls Try.prog 90 #[.pointer (some ⟨g,0,none⟩),.int .i64 most,.func (.func 91) #[] #[]] w fun e w'=>e=.returned (.slice none 0 0)∧Below w.heap.size w w':=by
 have hb1:=below_alloc (Below.refl w.heap.size w) (.cells #[.func (.func 91) #[] #[]] 114 (0,0))
 have HB1:=Ak hb1
 obtain ⟨A,n,c,N,m,hg⟩:=h.below hb1
 have he':(er != 0)=true:=by simp [he]
 have HG:=Ak hg
 clear he h hb1 hg
 go_enter Try.func90,Try.ntmps90
 go_upto_region 1 with (fail)
 obtain ⟨W1,hW1⟩:∃ W1,W1=w.alloc (.cells #[.func (.func 91) #[] #[]] 114 (0,0)):=⟨_,rfl⟩
 rw [← hW1] at HB1 HG ⊢
 clear hW1
 obtain ⟨c0,c1,c2,c3,z0,z1,z2,z3⟩:=row4 HG.out
 go_wp2
 go_ret
 exact ⟨rfl,HB1.out⟩
set_option maxHeartbeats 8000000 in
theorem listOfCt_calls (g:Nat) (xs:List Int) (N m most:Int) (w:World) (h:RdOk w g xs N m) (hm0:0≤most) (hm1:most≤16) :
  Calls Try.prog 90 #[.pointer (some ⟨g,0,none⟩),.int .i64 most,.func (.func 91) #[] #[]] w (ListRd eCt w g N m (listR most ctR xs)):=by
 have hb1:=below_alloc (Below.refl w.heap.size w) (.cells #[.func (.func 91) #[] #[]] 114 (0,0))
 have HB1:=Ak hb1
 have HF1:=Ak (blk_new w (.cells #[.func (.func 91) #[] #[]] 114 (0,0)))
 obtain ⟨A,n,c,hg,hs⟩:=h.below hb1
 have HG:=Ak hg
 have HS:=Ak hs
 have HGL:=Ak h.lt
 clear h hb1 hg hs
 go_enter Try.func90,Try.ntmps90
 go_upto_region 1 with (fail)
 obtain ⟨gf,hgf⟩:∃ gf,gf=w.heap.size:=⟨_,rfl⟩
 rw [← hgf]
 obtain ⟨W1,hW1⟩:∃ W1,W1=w.alloc (.cells #[.func (.func 91) #[] #[]] 114 (0,0)):=⟨_,rfl⟩
 rw [← hW1] at HB1 HF1 HG HS ⊢
 rw [← hgf] at HF1
 have HZ:=Ak (show w.heap.size≤W1.heap.size by rw [hW1];simp)
 clear hW1 hgf
 obtain ⟨c0,c1,c2,c3,z0,z1,z2,z3⟩:=row4 HG.out
 go_upto_region 4 with (go_at_call 108;go_must (refine (takeCt_calls gf A n c xs most _ (HS.out.mono (Nat.le_of_lt (blk_lt HG.out))) hm0 hm1 HF1.out).mono ?_;rintro e w2 ⟨V,l,cnt,er,rfl,hrow,hb,htk⟩;have HG2:=Ak (blk_below HG.out hb);have HS2:=Ak (HS.out.chg (S:=fun _=>False) (Nat.le_of_lt (blk_lt HG.out)) (fun _ h=>h.elim) (Chg.of_below hb));have HROW:=Ak hrow;have HTK:=Ak htk;have HB2:=Ak hb;clear hrow hb htk))
 clear c0 c1 c2 c3 z0 z1 z2 z3
 cases hR:listR most ctR xs with
 | error k =>
  have htk:=HTK.out
  rw [hR] at htk
  obtain ⟨rfl,rfl,rfl,rfl,hne⟩:=htk
  have HNE:=Ak hne
  have HRE:=Ak hR
  clear hR hne HTK
  go_wp2_with (go_at_call 106;go_must (refine (skip_no g A n c N m 0 er _ HG2.out HNE.out).mono ?_;rintro e w' ⟨rfl,hw⟩;subst hw))
  go_ret
  exact ⟨_,[],rfl,RowG.nil _ _ _,chg_trans (Chg.of_below HB1.out) (chg_trans (Chg.of_below HB2.out) (chg_set _ _ _ _)),by rw [HRE.out];exact ⟨rfl,_,_,_,_,_,rd4_3 HG2.out⟩⟩
 | ok y =>
  obtain ⟨l',r⟩:=y
  have htk:=HTK.out
  rw [hR] at htk
  obtain ⟨rfl,rfl,u,rfl,hu1,hu2,hrr⟩:=htk
  have hu3:u≤n:=by rw [HS.out.reads.1] at hu2;exact hu2
  obtain ⟨A',hcut,hcs⟩:=cut_old (A:=A) (n:=n) (c:=c) u hu3
  have HCUT:=Ak hcut
  have HCS:=Ak (hcs _ g xs HS2.out)
  have HRR:=Ak hrr
  have HRE:=Ak hR
  clear hR HTK hcut hcs hrr hu2
  go_wp2_with (go_at_call 106;go_must (refine (skip_ok g A A' n c (n - u) (c - u) N m u _ HG2.out HCUT.out).mono ?_;rintro e w' ⟨rfl,hw⟩;subst hw))
  go_ret
  have HRX:=HROW.out
  exact ⟨_,l,rfl,list_row HRX HZ.out HGL.out,chg_trans (Chg.of_below HB1.out) (chg_trans (Chg.of_below HB2.out) (chg_set _ _ _ _)),by rw [HRE.out];exact ⟨rfl,A',n - u,c - u,rd4_0 HG2.out,by rw [HRR.out];exact HCS.out.chg (Nat.le_of_lt (blk_lt HG2.out)) (fun k e=>Nat.le_of_eq e.symm) (chg_set _ _ _ _)⟩⟩
end Go.Proofs.Ytcgkeolgflphiaa

namespace Go.Proofs.Ytcgkeolgflphiaa
open Go.RowKit Go.Proofs.YtcgkeolgflphiaaW.PrintWords Go.RegionInvYtcgkeolgflphiaa

set_option maxHeartbeats 4000000 in
theorem set21v {w:World} {g:Nat} {x0 x1 x2 x3 x4 x5 x6 x7 x8 x9 x10 x11 x12 x13 x14 x15 x16 x17 x18 x19 x20 a11 a12 a13 a14 a15 a16 a17 a18:Value} {t:TypeId} (h:w.heap[g]?=some (.cells #[x0,x1,x2,x3,x4,x5,x6,x7,x8,x9,x10,x11,x12,x13,x14,x15,x16,x17,x18,x19,x20] t (0,0))) :
  ((((((((w.setCell ⟨g,11,none⟩ a11).setCell ⟨g,12,none⟩ a12).setCell ⟨g,13,none⟩ a13).setCell ⟨g,14,none⟩ a14).setCell ⟨g,15,none⟩ a15).setCell ⟨g,16,none⟩ a16).setCell ⟨g,17,none⟩ a17).setCell ⟨g,18,none⟩ a18).heap[g]?=some (.cells #[x0,x1,x2,x3,x4,x5,x6,x7,x8,x9,x10,a11,a12,a13,a14,a15,a16,a17,a18,x19,x20] t (0,0)):=by
 have h11:(w.setCell ⟨g,11,none⟩ a11).heap[g]?=some (.cells #[x0,x1,x2,x3,x4,x5,x6,x7,x8,x9,x10,a11,x12,x13,x14,x15,x16,x17,x18,x19,x20] t (0,0)):=blk_put h 11 a11 rfl
 have h12:((w.setCell ⟨g,11,none⟩ a11).setCell ⟨g,12,none⟩ a12).heap[g]?=some (.cells #[x0,x1,x2,x3,x4,x5,x6,x7,x8,x9,x10,a11,a12,x13,x14,x15,x16,x17,x18,x19,x20] t (0,0)):=blk_put h11 12 a12 rfl
 have h13:(((w.setCell ⟨g,11,none⟩ a11).setCell ⟨g,12,none⟩ a12).setCell ⟨g,13,none⟩ a13).heap[g]?=some (.cells #[x0,x1,x2,x3,x4,x5,x6,x7,x8,x9,x10,a11,a12,a13,x14,x15,x16,x17,x18,x19,x20] t (0,0)):=blk_put h12 13 a13 rfl
 have h14:((((w.setCell ⟨g,11,none⟩ a11).setCell ⟨g,12,none⟩ a12).setCell ⟨g,13,none⟩ a13).setCell ⟨g,14,none⟩ a14).heap[g]?=some (.cells #[x0,x1,x2,x3,x4,x5,x6,x7,x8,x9,x10,a11,a12,a13,a14,x15,x16,x17,x18,x19,x20] t (0,0)):=blk_put h13 14 a14 rfl
 have h15:(((((w.setCell ⟨g,11,none⟩ a11).setCell ⟨g,12,none⟩ a12).setCell ⟨g,13,none⟩ a13).setCell ⟨g,14,none⟩ a14).setCell ⟨g,15,none⟩ a15).heap[g]?=some (.cells #[x0,x1,x2,x3,x4,x5,x6,x7,x8,x9,x10,a11,a12,a13,a14,a15,x16,x17,x18,x19,x20] t (0,0)):=blk_put h14 15 a15 rfl
 have h16:((((((w.setCell ⟨g,11,none⟩ a11).setCell ⟨g,12,none⟩ a12).setCell ⟨g,13,none⟩ a13).setCell ⟨g,14,none⟩ a14).setCell ⟨g,15,none⟩ a15).setCell ⟨g,16,none⟩ a16).heap[g]?=some (.cells #[x0,x1,x2,x3,x4,x5,x6,x7,x8,x9,x10,a11,a12,a13,a14,a15,a16,x17,x18,x19,x20] t (0,0)):=blk_put h15 16 a16 rfl
 have h17:(((((((w.setCell ⟨g,11,none⟩ a11).setCell ⟨g,12,none⟩ a12).setCell ⟨g,13,none⟩ a13).setCell ⟨g,14,none⟩ a14).setCell ⟨g,15,none⟩ a15).setCell ⟨g,16,none⟩ a16).setCell ⟨g,17,none⟩ a17).heap[g]?=some (.cells #[x0,x1,x2,x3,x4,x5,x6,x7,x8,x9,x10,a11,a12,a13,a14,a15,a16,a17,x18,x19,x20] t (0,0)):=blk_put h16 17 a17 rfl
 have h18:((((((((w.setCell ⟨g,11,none⟩ a11).setCell ⟨g,12,none⟩ a12).setCell ⟨g,13,none⟩ a13).setCell ⟨g,14,none⟩ a14).setCell ⟨g,15,none⟩ a15).setCell ⟨g,16,none⟩ a16).setCell ⟨g,17,none⟩ a17).setCell ⟨g,18,none⟩ a18).heap[g]?=some (.cells #[x0,x1,x2,x3,x4,x5,x6,x7,x8,x9,x10,a11,a12,a13,a14,a15,a16,a17,a18,x19,x20] t (0,0)):=blk_put h17 18 a18 rfl
 exact h18
theorem chg_set21v (w:World) (g:Nat) (a11 a12 a13 a14 a15 a16 a17 a18:Value):Chg (fun k=>k=g) w ((((((((w.setCell ⟨g,11,none⟩ a11).setCell ⟨g,12,none⟩ a12).setCell ⟨g,13,none⟩ a13).setCell ⟨g,14,none⟩ a14).setCell ⟨g,15,none⟩ a15).setCell ⟨g,16,none⟩ a16).setCell ⟨g,17,none⟩ a17).setCell ⟨g,18,none⟩ a18):=chg_trans (chg_trans (chg_trans (chg_trans (chg_trans (chg_trans (chg_trans (chg_set _ _ _ _) (chg_set _ _ _ _)) (chg_set _ _ _ _)) (chg_set _ _ _ _)) (chg_set _ _ _ _)) (chg_set _ _ _ _)) (chg_set _ _ _ _)) (chg_set _ _ _ _)
theorem row21v {w:World} {g:Nat} {x0 x1 x2 x3 x4 x5 x6 x7 x8 x9 x10 x11 x12 x13 x14 x15 x16 x17 x18 x19 x20:Value} {t:TypeId} (h:w.heap[g]?=some (.cells #[x0,x1,x2,x3,x4,x5,x6,x7,x8,x9,x10,x11,x12,x13,x14,x15,x16,x17,x18,x19,x20] t (0,0))) :
  (w.cell? ⟨g,11,none⟩=some x11∧w.cell? ⟨g,12,none⟩=some x12∧w.cell? ⟨g,13,none⟩=some x13∧w.cell? ⟨g,14,none⟩=some x14∧w.cell? ⟨g,15,none⟩=some x15∧w.cell? ⟨g,16,none⟩=some x16∧w.cell? ⟨g,17,none⟩=some x17∧w.cell? ⟨g,18,none⟩=some x18∧w.cell? ⟨g,19,none⟩=some x19∧w.cell? ⟨g,20,none⟩=some x20)∧w.frozen? ⟨g,11,none⟩=false∧w.frozen? ⟨g,12,none⟩=false∧w.frozen? ⟨g,13,none⟩=false∧w.frozen? ⟨g,14,none⟩=false∧w.frozen? ⟨g,15,none⟩=false∧w.frozen? ⟨g,16,none⟩=false∧w.frozen? ⟨g,17,none⟩=false∧w.frozen? ⟨g,18,none⟩=false∧w.frozen? ⟨g,19,none⟩=false∧w.frozen? ⟨g,20,none⟩=false:=by
 refine ⟨⟨?_,?_,?_,?_,?_,?_,?_,?_,?_,?_⟩,blk_frozen h 11,blk_frozen h 12,blk_frozen h 13,blk_frozen h 14,blk_frozen h 15,blk_frozen h 16,blk_frozen h 17,blk_frozen h 18,blk_frozen h 19,blk_frozen h 20⟩ <;> (rw [cell_of_row _ _ _ _ _ _ h];rfl)
abbrev dzO:Obj:=.cells zdcA 30 (0,0)
structure DcBx (w W:World) (g gO:Nat) (P:DPl) (d:Dc):Prop where
 out:W.heap[gO]?=some (dcO P d)
 res:W.heap[w.heap.size]?=some dzO
 chg:Chg (fun k=>k=g) w W
 far:w.heap.size<gO
 glt:g<w.heap.size
 mem:DcS W (fun b=>w.heap.size<b∧b≠gO) P d
theorem DcBx.reader {w W W':World} {g gO:Nat} {P:DPl} {d:Dc} (h:DcBx w W g gO P d) (hc:Chg (fun k=>k=g) W W'):DcBx w W' g gO P d:=by
 have h1:=h.far
 have h2:=h.glt
 exact ⟨(hc.block _ (blk_lt h.out) (by omega)).trans h.out,(hc.block _ (blk_lt h.res) (by omega)).trans h.res,chg_trans h.chg hc,h.far,h.glt,h.mem.same fun k hk hz=>hc.block k hz (by have:=hk.1;omega)⟩
theorem DcBx.upd {w W W':World} {g gO:Nat} {P P':DPl} {d d':Dc} (h:DcBx w W g gO P d) (hc:Chg (fun k=>k=gO) W W') (ho:W'.heap[gO]?=some (dcO P' d')) (hm:DcS W (fun b=>w.heap.size<b∧b≠gO) P' d'):DcBx w W' g gO P' d':=by
 have h1:=h.far
 have h2:=h.glt
 refine ⟨ho,(hc.block _ (blk_lt h.res) (by omega)).trans h.res,⟨hc.os.trans h.chg.os,hc.tape.trans h.chg.tape,hc.output.trans h.chg.output,Nat.le_trans h.chg.size hc.size,fun i hi hs=>?_⟩,h1,h2,hm.same fun k hk hz=>hc.block k hz hk.2⟩
 rw [hc.block i (Nat.lt_of_lt_of_le hi h.chg.size) (by omega),h.chg.block i hi hs]
def AnyDc (w:World) (g:Nat) (R:Except Int (Dc × List Int)) (e:Ending) (w':World):Prop:=
 ∃ P d,e=.returned (dcV P d)∧DcS w' (fun b=>w.heap.size≤b) P d∧Chg (fun k=>k=g) w w'∧RS w' g (restR R)∧valIs d R
theorem dcBx_new {w w5:World} {g B:Nat} {P:DPl} {d:Dc} (hg:g<w.heap.size) (hc:Chg (fun k=>k=g) w w5) (hr:w5.heap[w.heap.size]?=some dzO) (hm:DcS w5 (fun b=>B≤b) P d) (hB:w.heap.size<B):DcBx w ((w5.alloc dzO).setRow w5.heap.size (dcA P d)) g w5.heap.size P d:=by
 have hs:=dc_boxed w5 P d
 have hlt:=blk_lt hr
 refine ⟨hs.1,(hs.2.block _ hlt).trans hr,chg_trans hc (Chg.of_below hs.2),hlt,hg,(hm.mono (S':=fun b=>(w.heap.size<b∧b≠w5.heap.size)∧b<w5.heap.size) fun k hk hz=>⟨⟨by omega,by omega⟩,hz⟩).same (fun k hk hz=>hs.2.block k hz) |>.mono fun k hk _=>hk.1⟩
theorem chg_setRow (w:World) (g:Nat) (cs:Array Value):Chg (fun k=>k=g) w (w.setRow g cs):=⟨rfl,rfl,rfl,Nat.le_of_eq (size_setRow _ _ _).symm,fun k _ hn=>setRow_other w g k _ hn⟩
theorem dc_fin {w wc:World} {g gO:Nat} {P:DPl} {d:Dc} {R:Except Int (Dc × List Int)} (hb:DcBx w wc g gO P d) (hm:RS wc g (restR R)) (hv:valIs d R):AnyDc w g R (.returned (dcV P d)) (wc.setRow w.heap.size (dcA P d)):=by
 have hch:=chg_setRow wc w.heap.size (dcA P d)
 have hglt:=hb.glt
 refine ⟨P,d,rfl,(hb.mem.same fun k hk _=>hch.block k (by assumption) (by have:=hk.1;omega)).mono fun k hk _=>Nat.le_of_lt hk.1,⟨hch.os.trans hb.chg.os,hch.tape.trans hb.chg.tape,hch.output.trans hb.chg.output,Nat.le_trans hb.chg.size hch.size,fun i hi hs=>?_⟩,hm.chg (S:=fun k=>k=w.heap.size) (fun k e=>by omega) hch,hv⟩
 rw [hch.block i (Nat.lt_of_lt_of_le hi hb.chg.size) (by omega),hb.chg.block i hi hs]
def R1 (s:Except Int (List Int)):=nextR s (kindR 3)
def R2 (s:Except Int (List Int)):=nextR (restR (R1 s)) nameR
def R3 (s:Except Int (List Int)):=nextR (restR (R2 s)) numR
def R4 (s:Except Int (List Int)):=nextR (restR (R3 s)) wholeR
def aftR (k:Int) (nm:ByteArray) (v:Int) (t:Tm) (R:Except Int (Tm × List Int)):Except Int (Dc × List Int):=match R with
 | .error e=>.error e
 | .ok (_,r)=>dcRr k nm v t r
theorem dc_chain {s:Except Int (List Int)} {k v:Int} {nm:ByteArray} {t:Tm} (h1:valIs k (R1 s)) (h2:valIs nm (R2 s)) (h3:valIs v (R3 s)) (h4:valIs t (R4 s)):nextR s dcR=aftR k nm v t (R4 s):=by
 cases s with
 | error e=>rfl
 | ok xs =>
  have e1:R1 (.ok xs)=kindR 3 xs:=rfl
  show dcR xs=_
  unfold dcR
  cases hk:kindR 3 xs with
  | error e =>
   have:R4 (.ok xs)=.error e:=by unfold R4 R3 R2 R1;simp only [nextR];rw [hk];rfl
   rw [this];rfl
  | ok y =>
   obtain ⟨k',r1⟩:=y
   rw [e1,hk] at h1
   obtain rfl:k=k':=h1
   have e2:R2 (.ok xs)=nameR r1:=by unfold R2 R1;simp only [nextR];rw [hk];rfl
   simp only []
   cases hn:nameR r1 with
   | error e =>
    have:R4 (.ok xs)=.error e:=by unfold R4 R3;rw [e2,hn];rfl
    rw [this];rfl
   | ok y =>
    obtain ⟨nm',r2⟩:=y
    rw [e2,hn] at h2
    obtain rfl:nm=nm':=h2
    have e3:R3 (.ok xs)=numR r2:=by unfold R3;rw [e2,hn];rfl
    simp only []
    cases hv:numR r2 with
    | error e =>
     have:R4 (.ok xs)=.error e:=by unfold R4;rw [e3,hv];rfl
     rw [this];rfl
    | ok y =>
     obtain ⟨v',r3⟩:=y
     rw [e3,hv] at h3
     obtain rfl:v=v':=h3
     have e4:R4 (.ok xs)=wholeR r3:=by unfold R4;rw [e3,hv];rfl
     simp only []
     rw [e4] at h4 ⊢
     cases ht:wholeR r3 with
     | error e=>rfl
     | ok y =>
      rw [ht] at h4
      obtain rfl:t=y.1:=h4
      rfl
theorem aft_def {nm:ByteArray} {v:Int} {t x:Tm} {R:Except Int (Tm × List Int)} (h:valIs x (nextR (restR R) wholeR)):restR (aftR 2 nm v t R)=restR (nextR (restR R) wholeR)∧valIs (⟨2,nm,v,t,x,0,[]⟩:Dc) (aftR 2 nm v t R):=by
 cases R with
 | error e=>exact ⟨rfl,trivial⟩
 | ok y =>
  have e1:aftR 2 nm v t (.ok y)=dcRr 2 nm v t y.2:=rfl
  have e2:nextR (restR (.ok y:Except Int (Tm × List Int))) wholeR=wholeR y.2:=rfl
  rw [e2] at h
  rw [e1,e2]
  unfold dcRr
  rw [if_pos rfl]
  cases hw:wholeR y.2 with
  | error e=>exact ⟨rfl,trivial⟩
  | ok z=>rw [hw] at h;exact ⟨rfl,by rw [show x=z.1 from h];rfl⟩
theorem aft_ind {nm:ByteArray} {v p:Int} {t:Tm} {l:List Ct} {R:Except Int (Tm × List Int)} (h:valIs p (nextR (restR R) numR)) (h2:valIs l (nextR (restR (nextR (restR R) numR)) (listR 8 ctR))):restR (aftR 3 nm v t R)=restR (nextR (restR (nextR (restR R) numR)) (listR 8 ctR))∧valIs (⟨3,nm,v,t,noT,p,l⟩:Dc) (aftR 3 nm v t R):=by
 cases R with
 | error e=>exact ⟨rfl,trivial⟩
 | ok y =>
  have e1:aftR 3 nm v t (.ok y)=dcRr 3 nm v t y.2:=rfl
  have e2:nextR (restR (.ok y:Except Int (Tm × List Int))) numR=numR y.2:=rfl
  rw [e2] at h h2
  rw [e1,e2]
  unfold dcRr
  rw [if_neg (by decide),if_pos rfl]
  cases hw:numR y.2 with
  | error e=>exact ⟨rfl,trivial⟩
  | ok z =>
   rw [hw] at h h2
   have e3:nextR (restR (.ok z:Except Int (Int × List Int))) (listR 8 ctR)=listR 8 ctR z.2:=rfl
   rw [e3] at h2 ⊢
   simp only []
   cases hl:listR 8 ctR z.2 with
   | error e=>exact ⟨rfl,trivial⟩
   | ok u=>rw [hl] at h2;exact ⟨rfl,by rw [show p=z.1 from h,show l=u.1 from h2];rfl⟩
theorem aft_ax {k v:Int} {nm:ByteArray} {t:Tm} {R:Except Int (Tm × List Int)} (h2:k≠2) (h3:k≠3):restR (aftR k nm v t R)=restR R∧valIs (⟨k,nm,v,t,noT,0,[]⟩:Dc) (aftR k nm v t R):=by
 cases R with
 | error e=>exact ⟨rfl,trivial⟩
 | ok y =>
  have e1:aftR k nm v t (.ok y)=dcRr k nm v t y.2:=rfl
  rw [e1]
  unfold dcRr
  rw [if_neg h2,if_neg h3]
  exact ⟨rfl,rfl⟩
def pl00:DPl:=⟨⟨none,0,none,0,none,0⟩,⟨none,0,none,0,none,0⟩,none,0,fun _=>default⟩
theorem noT_in (w:World) (S:Nat→Prop):TmS w S ⟨none,0,none,0,none,0⟩ noT:=.mk (fun _=>default) (LvS.leaf0 _ _ _ _) (LvS.leaf0 _ _ _ _) (Nat.le_refl _) (Nat.zero_le _) (fit_n (n:=0) (by decide)) (fun i x h=>by simp at h) (fun i x h=>by simp at h)
theorem rowCt_dc {w:World} {lo:Nat} {V:Value} {xs:List Ct} (h:RowG eCt w lo V xs):∃ (C:Option Addr) (e:Nat) (q:Nat→Pl),V=.slice C xs.length e∧(xs.length≤e∧e≤9223372036854775807)∧∀ (i:Nat) (c:Ct),xs[i]?=some c→CtAt w (fun b=>lo≤b) C i (q i) c∧TmS w (fun b=>lo≤b) (q i) c.ty∧c.nm.size≤140737488355328:=by
 obtain ⟨cs,q,ho,hk⟩:=h
 obtain ⟨C,e,rfl⟩:=own_slice ho
 refine ⟨C,e,q,rfl,⟨own_cap ho,own_max ho⟩,fun i c hc=>?_⟩
 have hi:i<xs.length:=by
  rcases Nat.lt_or_ge i xs.length with h | h
  ·exact h
  ·rw [List.getElem?_eq_none h] at hc;cases hc
 obtain ⟨g,cap,hv,hb,_⟩:=ho.form (by omega)
 have hv':=hv
 injection hv with hA
 have hm:=(hk i c hc).2
 refine ⟨⟨g,0,hA,hb,fun j v hjv=>?_⟩,TmS.mono hm.1 fun b hb _=>hb.1,hm.2⟩
 have:=ho.cells (g:=g) (by rw [hv'];rfl) _ _ ((hk i c hc).1 j v hjv)
 rwa [show (⟨g,0,none⟩:Addr).add (i * eCt.sz+j)=⟨g,0+(i * 9+j),none⟩ from add_flat g 0 _,← Nat.add_assoc] at this
def AnyCs (w:World) (g:Nat) (R:Except Int (List Ct × List Int)) (e:Ending) (w':World):Prop:=
 ∃ V l,e=.returned V∧RowG eCt w' w.heap.size V l∧Chg (fun k=>k=g) w w'∧RS w' g (restR R)∧valIs l R
theorem list_any (g:Nat) (s:Except Int (List Int)) (w:World) (h:RS w g s) :
  Calls Try.prog 90 #[.pointer (some ⟨g,0,none⟩),.int .i64 8,.func (.func 91) #[] #[]] w (AnyCs w g (nextR s (listR 8 ctR))):=by
 cases s with
 | error er =>
  refine (listOfCt_bad g er 8 w h.2 h.1).mono ?_
  rintro e w' ⟨rfl,hb⟩
  exact ⟨_,[],rfl,RowG.nil _ _ _,Chg.of_below hb,RS.below (s:=.error er) h hb,trivial⟩
 | ok xs =>
  obtain ⟨N,m,h⟩:=h
  refine (listOfCt_calls g xs N m 8 w h (by decide) (by decide)).mono ?_
  rintro e w' ⟨V,l,rfl,hr,hc,hst⟩
  refine ⟨V,l,rfl,hr,hc,?_⟩
  show RS w' g (restR (listR 8 ctR xs))∧valIs l (listR 8 ctR xs)
  cases hR:listR 8 ctR xs with
  | error er=>rw [hR] at hst;exact ⟨⟨list_err (fun h=>ct_err h) hR,hst.2⟩,trivial⟩
  | ok y=>rw [hR] at hst;exact ⟨⟨N,m,hst.2⟩,hst.1⟩
end Go.Proofs.Ytcgkeolgflphiaa

namespace Go.Proofs.Ytcgkeolgflphiaa
open Go.RowKit Go.Proofs.YtcgkeolgflphiaaW.PrintWords Go.RegionInvYtcgkeolgflphiaa

set_option maxRecDepth 100000 in
set_option maxHeartbeats 8000000 in
theorem decl_any (g:Nat) (s:Except Int (List Int)) (w:World) (h:RS w g s) :
  Calls Try.prog 68 #[.pointer (some ⟨g,0,none⟩)] w (AnyDc w g (nextR s dcR)):=by
 have HGL:=Ak h.lt
 have HM0:=Ak (h.below (below_alloc (Below.refl _ _) dzO))
 have HX0:=Ak (blk_new w dzO)
 have HC0:=Ak (show Chg (fun k=>k=g) w (w.alloc dzO) from Chg.of_below (below_alloc (Below.refl w.heap.size w) dzO))
 clear h
 go_enter Try.func68,Try.ntmps68
 go_upto_region 1 with (fail)
 obtain ⟨W0,hW0⟩:∃ W0,W0=w.alloc dzO:=⟨_,rfl⟩
 rw [← hW0] at HM0 HX0 HC0 ⊢
 clear hW0
 go_upto_region 2 with (first
  | (go_at_call 86;go_must (refine (kind_any g s 3 _ HM0.out (by decide) (by decide)).mono ?_;rintro e w1 ⟨k,rfl,hc1,hm1,hv1⟩;have HX1:=Ak ((hc1.block _ (blk_lt HX0.out) (by have:=HGL.out;omega)).trans HX0.out);have HC1:=Ak (chg_trans HC0.out hc1);have HM1:=Ak hm1;have HV1:=Ak hv1;clear hc1 hm1 hv1))
  | (go_at_call 87;go_must (refine (name_any g _ _ HM1.out).mono ?_;rintro e w2 ⟨nm,rfl,hsz,hc2,hm2,hv2⟩;have HSZ:=Ak hsz;clear hsz;have HX2:=Ak ((hc2.block _ (blk_lt HX1.out) (by have:=HGL.out;omega)).trans HX1.out);have HC2:=Ak (chg_trans HC1.out hc2);have HM2:=Ak hm2;have HV2:=Ak hv2;clear hc2 hm2 hv2))
  | (go_at_call 88;go_must (refine (num_any g _ _ HM2.out).mono ?_;rintro e w3 ⟨vv,rfl,hc3,hm3,hv3⟩;have HX3:=Ak ((hc3.block _ (blk_lt HX2.out) (by have:=HGL.out;omega)).trans HX2.out);have HC3:=Ak (chg_trans HC2.out hc3);have HM3:=Ak hm3;have HV3:=Ak hv3;clear hc3 hm3 hv3))
  | (go_at_call 89;go_must (refine (whole_any g _ _ HM3.out).mono ?_;rintro e w5 ⟨p5,t5,rfl,hl5,hc5,hm5,hv5⟩;have HL5:=Ak hl5;clear hl5;have HX5:=Ak ((hc5.block _ (blk_lt HX3.out) (by have:=HGL.out;omega)).trans HX3.out);have HC5:=Ak (chg_trans HC3.out hc5);have HM5:=Ak hm5;have HV5:=Ak hv5;clear hc5 hm5 hv5;simp only [tmV]))
  | (refine wpList_store_row rfl 30 _ _ rfl w5.heap.size #[.int .i64 k,.string nm,.int .i64 vv,.int .i64 t5.kind,.int .i64 t5.num,.string t5.name,.int .i64 t5.lv.kind,.int .i64 t5.lv.num,.slice p5.A t5.lv.kids.length p5.c,.slice p5.B t5.ls.length p5.d,.slice p5.K t5.kids.length p5.e,.int .i64 0,.int .i64 0,.string ⟨#[]⟩,.int .i64 0,.int .i64 0,.slice none 0 0,.slice none 0 0,.slice none 0 0,.int .i64 0,.slice none 0 0] rfl rfl 30 #[.int .i64 0,.string ⟨#[]⟩,.int .i64 0,.int .i64 0,.int .i64 0,.string ⟨#[]⟩,.int .i64 0,.int .i64 0,.slice none 0 0,.slice none 0 0,.slice none 0 0,.int .i64 0,.int .i64 0,.string ⟨#[]⟩,.int .i64 0,.int .i64 0,.slice none 0 0,.slice none 0 0,.slice none 0 0,.int .i64 0,.slice none 0 0] (blk_new _ _) (by kernel_rfl) rfl (all_one (l:=[.int .i64 k,.string nm,.int .i64 vv,.int .i64 t5.kind,.int .i64 t5.num,.string t5.name,.int .i64 t5.lv.kind,.int .i64 t5.lv.num,.slice p5.A t5.lv.kids.length p5.c,.slice p5.B t5.ls.length p5.d,.slice p5.K t5.kids.length p5.e,.int .i64 0,.int .i64 0,.string ⟨#[]⟩,.int .i64 0,.int .i64 0,.slice none 0 0,.slice none 0 0,.slice none 0 0,.int .i64 0,.slice none 0 0]) rfl) ?_))
 obtain ⟨d1,hd1⟩:∃ d1:Dc,d1=⟨k,nm,vv,t5,noT,0,[]⟩:=⟨_,rfl⟩
 obtain ⟨P1,hP1⟩:∃ P1:DPl,P1=⟨p5,⟨none,0,none,0,none,0⟩,none,0,fun _=>default⟩:=⟨_,rfl⟩
 have HB6:=Ak (dcBx_new (P:=⟨p5,⟨none,0,none,0,none,0⟩,none,0,fun _=>default⟩) (d:=⟨k,nm,vv,t5,noT,0,[]⟩) HGL.out HC5.out HX5.out ⟨HL5.out,noT_in _ _,⟨Nat.le_refl _,Nat.zero_le _⟩,HSZ.out,fun i c h=>by simp at h⟩ (blk_lt HX3.out))
 have HM6:=Ak (HM5.out.below (dc_boxed w5 ⟨p5,⟨none,0,none,0,none,0⟩,none,0,fun _=>default⟩ ⟨k,nm,vv,t5,noT,0,[]⟩).2)
 obtain ⟨gO,hgO⟩:∃ gO,gO=w5.heap.size:=⟨_,rfl⟩
 obtain ⟨W6,hW6⟩:∃ W6,W6=(w5.alloc (.cells #[.int .i64 0,.string ⟨#[]⟩,.int .i64 0,.int .i64 0,.int .i64 0,.string ⟨#[]⟩,.int .i64 0,.int .i64 0,.slice none 0 0,.slice none 0 0,.slice none 0 0,.int .i64 0,.int .i64 0,.string ⟨#[]⟩,.int .i64 0,.int .i64 0,.slice none 0 0,.slice none 0 0,.slice none 0 0,.int .i64 0,.slice none 0 0] 30 (0,0))).setRow w5.heap.size #[.int .i64 k,.string nm,.int .i64 vv,.int .i64 t5.kind,.int .i64 t5.num,.string t5.name,.int .i64 t5.lv.kind,.int .i64 t5.lv.num,.slice p5.A t5.lv.kids.length p5.c,.slice p5.B t5.ls.length p5.d,.slice p5.K t5.kids.length p5.e,.int .i64 0,.int .i64 0,.string ⟨#[]⟩,.int .i64 0,.int .i64 0,.slice none 0 0,.slice none 0 0,.slice none 0 0,.int .i64 0,.slice none 0 0]:=⟨_,rfl⟩
 rw [← hgO] at hW6 HB6 HM6 ⊢
 rw [← hW6]
 replace HB6:Aside0 (DcBx w W6 g gO ⟨p5,⟨none,0,none,0,none,0⟩,none,0,fun _=>default⟩ ⟨k,nm,vv,t5,noT,0,[]⟩):=by rw [hW6];exact HB6
 replace HM6:Aside0 (RS W6 g (restR (R4 s))):=by rw [hW6];exact HM6
 have HSO:=Ak (blk_lt HB6.out.out)
 clear hgO hW6
 have HCH:=Ak (dc_chain (s:=s) (k:=k) (v:=vv) (nm:=nm) (t:=t5) HV1.out HV2.out HV3.out HV5.out)
 have d0:W6.cell? ⟨gO,0,none⟩=some (.int .i64 k):=by rw [cell_of_row _ _ _ _ _ _ HB6.out.out];rfl
 go_upto_block 0 with (fail)
 go_cut [] (fun w8=>∃ P d,Aside0 (DcBx w w8 g gO P d)∧Aside0 (RS w8 g (restR (nextR s dcR)))∧Aside0 (valIs d (nextR s dcR)))
 case first =>
  by_cases k2:k=2
  ·subst k2
   go_wp2_with (go_at_call 89;go_must (refine (whole_any g _ _ HM6.out).mono ?_;rintro e w7 ⟨p7,t7,rfl,hl7,hc7,hm7,hv7⟩;have HB7:=Ak (HB6.out.reader hc7);have HL7:=Ak hl7;have HM7:=Ak hm7;have HV7:=Ak hv7;clear hl7 hc7 hm7 hv7;simp only [tmV];obtain ⟨⟨b11,b12,b13,b14,b15,b16,b17,b18,-⟩,z11,z12,z13,z14,z15,z16,z17,z18,-⟩:=row21v HB7.out.out))
   go_meet
   case rel =>
    have hf:=HB7.out.far
    have hg:=HB7.out.glt
    have ho:=HSO.out
    have ha:=aft_def (nm:=nm) (v:=vv) (t:=t5) (R:=R4 s) HV7.out
    refine ⟨⟨p5,p7,none,0,fun _=>default⟩,⟨2,nm,vv,t5,t7,0,[]⟩,⟨HB7.out.upd (chg_set21v _ _ _ _ _ _ _ _ _ _) (set21v HB7.out.out) ⟨HB7.out.mem.ty,HL7.out.mono fun k hk _=>⟨by omega,by omega⟩,⟨Nat.le_refl _,Nat.zero_le _⟩,HSZ.out,fun i c h=>by simp at h⟩⟩,⟨?_⟩,⟨?_⟩⟩
    ·rw [HCH.out,ha.1];exact HM7.out.chg (S:=fun k=>k=gO) (fun k e=>by omega) (chg_set21v _ _ _ _ _ _ _ _ _ _)
    ·rw [HCH.out];exact ha.2
  ·have hk2:(k == 2)=false:=by simp [k2]
   by_cases k3:k=3
   ·subst k3
    go_upto_region 7 with (go_at_call 88;go_must (refine (num_any g _ _ HM6.out).mono ?_;rintro e w7 ⟨q7,rfl,hc7,hm7,hv7⟩;have HB7:=Ak (HB6.out.reader hc7);have HM7:=Ak hm7;have HV7:=Ak hv7;have HZ7:=Ak hc7.size;clear hc7 hm7 hv7;obtain ⟨⟨-,-,-,-,-,-,-,-,b19,-⟩,-,-,-,-,-,-,-,-,z19,-⟩:=row21v HB7.out.out))
    have HB8:=Ak (HB7.out.upd (P':=⟨p5,⟨none,0,none,0,none,0⟩,none,0,fun _=>default⟩) (d':=⟨3,nm,vv,t5,noT,q7,[]⟩) (chg_set w7 gO 19 (.int .i64 q7)) (blk_put HB7.out.out 19 _ rfl) ⟨HB7.out.mem.ty,HB7.out.mem.val,HB7.out.mem.len,HSZ.out,fun i c h=>by simp at h⟩)
    have HM8:=Ak (HM7.out.chg (S:=fun k=>k=gO) (fun k e=>by have:=HB7.out.far;have:=HB7.out.glt;omega) (chg_set w7 gO 19 (.int .i64 q7)))
    obtain ⟨W8,hW8⟩:∃ W8,W8=w7.setCell ⟨gO,19,none⟩ (.int .i64 q7):=⟨_,rfl⟩
    rw [← hW8] at HB8 HM8 ⊢
    have HSO8:=Ak (show gO<W8.heap.size by rw [hW8,World.size_setCell];exact Nat.lt_of_lt_of_le HSO.out HZ7.out)
    clear hW8 b19 z19
    go_wp2_with (go_at_call 90;go_must (refine (list_any g _ _ HM8.out).mono ?_;rintro e w9 ⟨V9,l9,rfl,hl9,hc9,hm9,hv9⟩;have HB9:=Ak (HB8.out.reader hc9);have HM9:=Ak hm9;have HV9:=Ak hv9;obtain ⟨C9,e9,q9,rfl,hle,hct⟩:=rowCt_dc hl9;have HCT:=Ak hct;have HLE:=Ak hle;clear hl9 hc9 hm9 hv9 hct hle;obtain ⟨⟨-,-,-,-,-,-,-,-,-,b20⟩,-,-,-,-,-,-,-,-,-,z20⟩:=row21v HB9.out.out))
    go_meet
    case rel =>
     have hf:=HB9.out.far
     have hg:=HB9.out.glt
     have ho:=HSO8.out
     have ha:=aft_ind (nm:=nm) (v:=vv) (t:=t5) (R:=R4 s) HV7.out HV9.out
     refine ⟨⟨p5,⟨none,0,none,0,none,0⟩,C9,e9,q9⟩,⟨3,nm,vv,t5,noT,q7,l9⟩,⟨HB9.out.upd (chg_set _ _ _ _) (blk_put HB9.out.out 20 _ rfl) ⟨HB9.out.mem.ty,HB9.out.mem.val,HLE.out,HSZ.out,fun i c h=>?_⟩⟩,⟨?_⟩,⟨?_⟩⟩
     ·obtain ⟨h1,h2,h3⟩:=HCT.out i c h
      exact ⟨h1.mono fun k hk _=>⟨by omega,by omega⟩,h2.mono fun k hk _=>⟨by omega,by omega⟩,h3⟩
     ·rw [HCH.out,ha.1];exact HM9.out.chg (S:=fun k=>k=gO) (fun k e=>by omega) (chg_set _ _ _ _)
     ·rw [HCH.out];exact ha.2
   ·have hk3:(k == 3)=false:=by simp [k3]
    have ha:=aft_ax (nm:=nm) (v:=vv) (t:=t5) (R:=R4 s) k2 k3
    have HA:=Ak ha
    clear ha k2 k3
    go_wp2
    go_meet
    case rel=>exact ⟨_,_,HB6,⟨by rw [HCH.out,HA.out.1];exact HM6.out⟩,⟨by rw [HCH.out];exact HA.out.2⟩⟩
 case rest =>
  obtain ⟨P,d,HB8,HM8,HV8⟩:=hcut
  go_wp2_with (first
   | (refine wpList_load_row rfl 30 _ rfl gO rfl 30 _ (0,0) _ HB8.out.out Try.underlying30 rfl (by kernel_rfl) ?_)
   | (refine wpList_store_row rfl 30 _ _ rfl w.heap.size #[.int .i64 d.kind,.string d.nm,.int .i64 d.vars,.int .i64 d.ty.kind,.int .i64 d.ty.num,.string d.ty.name,.int .i64 d.ty.lv.kind,.int .i64 d.ty.lv.num,.slice P.pt.A d.ty.lv.kids.length P.pt.c,.slice P.pt.B d.ty.ls.length P.pt.d,.slice P.pt.K d.ty.kids.length P.pt.e,.int .i64 d.val.kind,.int .i64 d.val.num,.string d.val.name,.int .i64 d.val.lv.kind,.int .i64 d.val.lv.num,.slice P.pv.A d.val.lv.kids.length P.pv.c,.slice P.pv.B d.val.ls.length P.pv.d,.slice P.pv.K d.val.kids.length P.pv.e,.int .i64 d.params,.slice P.C d.cs.length P.e] rfl rfl 30 #[.int .i64 0,.string ⟨#[]⟩,.int .i64 0,.int .i64 0,.int .i64 0,.string ⟨#[]⟩,.int .i64 0,.int .i64 0,.slice none 0 0,.slice none 0 0,.slice none 0 0,.int .i64 0,.int .i64 0,.string ⟨#[]⟩,.int .i64 0,.int .i64 0,.slice none 0 0,.slice none 0 0,.slice none 0 0,.int .i64 0,.slice none 0 0] HB8.out.res (by kernel_rfl) rfl (all_one (l:=[.int .i64 d.kind,.string d.nm,.int .i64 d.vars,.int .i64 d.ty.kind,.int .i64 d.ty.num,.string d.ty.name,.int .i64 d.ty.lv.kind,.int .i64 d.ty.lv.num,.slice P.pt.A d.ty.lv.kids.length P.pt.c,.slice P.pt.B d.ty.ls.length P.pt.d,.slice P.pt.K d.ty.kids.length P.pt.e,.int .i64 d.val.kind,.int .i64 d.val.num,.string d.val.name,.int .i64 d.val.lv.kind,.int .i64 d.val.lv.num,.slice P.pv.A d.val.lv.kids.length P.pv.c,.slice P.pv.B d.val.ls.length P.pv.d,.slice P.pv.K d.val.kids.length P.pv.e,.int .i64 d.params,.slice P.C d.cs.length P.e]) rfl) ?_))
  refine bodyPost_ret (results_c rfl _ _ w.heap.size 30 #[.int .i64 d.kind,.string d.nm,.int .i64 d.vars,.int .i64 d.ty.kind,.int .i64 d.ty.num,.string d.ty.name,.int .i64 d.ty.lv.kind,.int .i64 d.ty.lv.num,.slice P.pt.A d.ty.lv.kids.length P.pt.c,.slice P.pt.B d.ty.ls.length P.pt.d,.slice P.pt.K d.ty.kids.length P.pt.e,.int .i64 d.val.kind,.int .i64 d.val.num,.string d.val.name,.int .i64 d.val.lv.kind,.int .i64 d.val.lv.num,.slice P.pv.A d.val.lv.kids.length P.pv.c,.slice P.pv.B d.val.ls.length P.pv.d,.slice P.pv.K d.val.kids.length P.pv.e,.int .i64 d.params,.slice P.C d.cs.length P.e] (0,0) _ rfl (setRow_heap wc w.heap.size _ _ _ _ HB8.out.res) Try.underlying30 rfl (by kernel_rfl)) rfl ?_
  exact dc_fin HB8.out HM8.out HV8.out
end Go.Proofs.Ytcgkeolgflphiaa

namespace Go.Proofs.Ytcgkeolgflphiaa
open Go.RowKit Go.Proofs.YtcgkeolgflphiaaW.PrintWords Go.RegionInvYtcgkeolgflphiaa Go.RegionEYtcgkeolgflphiaa
set_option linter.unusedVariables false

theorem dc_one (P:DPl) (d:Dc):(#[.int .i64 d.kind,.string d.nm,.int .i64 d.vars,.int .i64 d.ty.kind,.int .i64 d.ty.num,.string d.ty.name,.int .i64 d.ty.lv.kind,.int .i64 d.ty.lv.num,.slice P.pt.A d.ty.lv.kids.length P.pt.c,.slice P.pt.B d.ty.ls.length P.pt.d,.slice P.pt.K d.ty.kids.length P.pt.e,.int .i64 d.val.kind,.int .i64 d.val.num,.string d.val.name,.int .i64 d.val.lv.kind,.int .i64 d.val.lv.num,.slice P.pv.A d.val.lv.kids.length P.pv.c,.slice P.pv.B d.val.ls.length P.pv.d,.slice P.pv.K d.val.kids.length P.pv.e,.int .i64 d.params,.slice P.C d.cs.length P.e]:Array Value).all (·.oneCell')=true:=all_one (l:=[.int .i64 d.kind,.string d.nm,.int .i64 d.vars,.int .i64 d.ty.kind,.int .i64 d.ty.num,.string d.ty.name,.int .i64 d.ty.lv.kind,.int .i64 d.ty.lv.num,.slice P.pt.A d.ty.lv.kids.length P.pt.c,.slice P.pt.B d.ty.ls.length P.pt.d,.slice P.pt.K d.ty.kids.length P.pt.e,.int .i64 d.val.kind,.int .i64 d.val.num,.string d.val.name,.int .i64 d.val.lv.kind,.int .i64 d.val.lv.num,.slice P.pv.A d.val.lv.kids.length P.pv.c,.slice P.pv.B d.val.ls.length P.pv.d,.slice P.pv.K d.val.kids.length P.pv.e,.int .i64 d.params,.slice P.C d.cs.length P.e]) rfl
theorem dz_one:(#[.int .i64 0,.string ⟨#[]⟩,.int .i64 0,.int .i64 0,.int .i64 0,.string ⟨#[]⟩,.int .i64 0,.int .i64 0,.slice none 0 0,.slice none 0 0,.slice none 0 0,.int .i64 0,.int .i64 0,.string ⟨#[]⟩,.int .i64 0,.int .i64 0,.slice none 0 0,.slice none 0 0,.slice none 0 0,.int .i64 0,.slice none 0 0]:Array Value).all (·.oneCell')=true:=all_one (l:=[.int .i64 0,.string ⟨#[]⟩,.int .i64 0,.int .i64 0,.int .i64 0,.string ⟨#[]⟩,.int .i64 0,.int .i64 0,.slice none 0 0,.slice none 0 0,.slice none 0 0,.int .i64 0,.int .i64 0,.string ⟨#[]⟩,.int .i64 0,.int .i64 0,.slice none 0 0,.slice none 0 0,.slice none 0 0,.int .i64 0,.slice none 0 0]) rfl
abbrev dz:Dc:=⟨0,⟨#[]⟩,0,noT,noT,0,[]⟩
def tk4_ops:List Oper:=[
 { dst:=some 17,op:=Go.Op.build 30 #[],type:=30,pos:= "decl.go:289",after:=#[],guard:=none },
 { dst:=some 18,op:=Go.Op.move (Go.Operand.tmp 5),type:=97,pos:= "decl.go:289",after:=#[{ on:=6,ground:=Go.Ground.gcOnly Go.Departure.lateStores }],guard:=none },
 { dst:=some 19,op:=Go.Op.nilCheck (Go.Operand.tmp 18),type:=0,pos:= "decl.go:289",after:=#[{ on:=1,ground:=Go.Ground.data },{ on:=6,ground:=Go.Ground.gcOnly Go.Departure.lateStores }],guard:=none },
 { dst:=some 20,op:=Go.Op.fieldAddr 99 (Go.Operand.tmp 19) 3,type:=0,pos:= "decl.go:289",after:=#[{ on:=2,ground:=Go.Ground.data },{ on:=6,ground:=Go.Ground.gcOnly Go.Departure.lateStores }],guard:=none },
 { dst:=some 21,op:=Go.Op.load 32 (Go.Operand.tmp 20),type:=32,pos:= "decl.go:289",after:=#[{ on:=3,ground:=Go.Ground.data },{ on:=6,ground:=Go.Ground.gcOnly Go.Departure.lateStores }],guard:=none },
 { dst:=none,op:=Go.Op.store 30 (Go.Operand.tmp 2) (Go.Operand.tmp 17),type:=0,pos:= "decl.go:289",after:=#[{ on:=0,ground:=Go.Ground.data },{ on:=0,ground:=Go.Ground.phase },{ on:=1,ground:=Go.Ground.textOnly Go.Departure.lateStores },{ on:=2,ground:=Go.Ground.textOnly Go.Departure.lateStores },{ on:=3,ground:=Go.Ground.textOnly Go.Departure.lateStores },{ on:=4,ground:=Go.Ground.textOnly Go.Departure.lateStores }],guard:=none },
 { dst:=some 3,op:=Go.Op.assign (Go.Operand.const (Go.Value.int Go.IntKind.i64 0)),type:=3,pos:= "decl.go:289",after:=#[{ on:=5,ground:=Go.Ground.chain },{ on:=0,ground:=Go.Ground.phase },{ on:=1,ground:=Go.Ground.textOnly Go.Departure.lateStores },{ on:=2,ground:=Go.Ground.textOnly Go.Departure.lateStores },{ on:=3,ground:=Go.Ground.textOnly Go.Departure.lateStores },{ on:=4,ground:=Go.Ground.textOnly Go.Departure.lateStores },{ on:=5,ground:=Go.Ground.phase }],guard:=none },
 { dst:=some 4,op:=Go.Op.assign (Go.Operand.tmp 21),type:=32,pos:= "decl.go:289",after:=#[{ on:=4,ground:=Go.Ground.data },{ on:=6,ground:=Go.Ground.chain },{ on:=0,ground:=Go.Ground.phase },{ on:=1,ground:=Go.Ground.phase },{ on:=2,ground:=Go.Ground.phase },{ on:=3,ground:=Go.Ground.phase },{ on:=4,ground:=Go.Ground.phase },{ on:=5,ground:=Go.Ground.phase },{ on:=6,ground:=Go.Ground.phase }],guard:=none }]
def tk4_F (w0:World) (gR gi n6 c6:Nat) (A6:Option Addr) (N6 m6 er:Int):Nat→(Nat→Value)→Value→World→(Nat→Prop)→Prop:=fun rix=>match rix with
 | 0=>fun _ v _ _=>v=.agg #[.int .i64 0,.string ⟨#[]⟩,.int .i64 0,.int .i64 0,.int .i64 0,.string ⟨#[]⟩,.int .i64 0,.int .i64 0,.slice none 0 0,.slice none 0 0,.slice none 0 0,.int .i64 0,.int .i64 0,.string ⟨#[]⟩,.int .i64 0,.int .i64 0,.slice none 0 0,.slice none 0 0,.slice none 0 0,.int .i64 0,.slice none 0 0]
 | 1=>fun _ v _ _=>v=.pointer (some ⟨gi,0,none⟩)
 | 2=>fun _ v _ _=>v=.pointer (some ⟨gi,0,none⟩)
 | 3=>fun _ v _ _=>v=.pointer (some ⟨gi,3,none⟩)
 | 4=>fun _ v _ _=>v=.int .i64 er
 | 5=>fun τ v w O=>w.heap[gR]?=some (dzO)∧O gR
 | 6=>fun _ v _ _=>v=.int .i64 0
 | 7=>fun _ v _ _=>v=.int .i64 er
 | _=>fun _ _ _ _=>True
def tk4_C:Nat→List Nat:=fun rix=>match rix with
 | _=>[]
theorem tk4_nw2:nwB tk4_ops.toArray 2=true:=by kernel_rfl
theorem tk4_nw5:nwB tk4_ops.toArray 5=true:=by kernel_rfl
set_option maxRecDepth 100000 in
set_option maxHeartbeats 8000000 in
theorem tk4_obs (w0:World) (gR gi n6 c6:Nat) (A6:Option Addr) (N6 m6 er:Int) (hR:w0.heap[gR]?=some dzO) (hI:w0.heap[gi]?=some (rdB A6 n6 c6 N6 m6 er)) (hn2:gi≠gR) (Q:Exit→Act→World→Prop) (a0:Act) (hi2:a0.tmps.getD 2 undef=.pointer (some ⟨gR,0,none⟩)) (hi3:a0.tmps.getD 3 undef=.int .i64 0) (hi4:a0.tmps.getD 4 undef=.int .i64 0) (hi5:a0.tmps.getD 5 undef=.pointer (some ⟨gi,0,none⟩)) :
  ObsE Try.prog tk4_ops.toArray Q (est2 5 0 (fun k=>k=gR) (fun _=>False)) tk4_C (tk4_F w0 gR gi n6 c6 A6 N6 m6 er) a0 w0 tk4_ops.toArray.toList 0:=by
 have nw2:=tk4_nw2
 have nw5:=tk4_nw5
 refine ⟨?_,?_,?_,?_,?_,?_,?_,?_,trivial⟩
 ·refine ⟨⟨fun τ=>stableE_det _,leans_not⟩,?_⟩
  intro a w O hk
  exact obE_run (wanted_none rfl) (by unfold execOp;simp only [List.map_toArray,List.map_nil];kernel_rfl) rfl
 ·refine ⟨⟨fun τ=>stableE_det _,leans_not⟩,?_⟩
  intro a w O hk
  have e5:a.eval (.tmp 5)=.pointer (some ⟨gi,0,none⟩):=(hk.init 5 (initialB_of_nw nw5)).trans hi5
  exact toE (ob_move rfl e5 (wanted_none rfl) rfl)
 ·refine ⟨⟨fun τ=>stableE_det _,leans_not⟩,?_⟩
  intro a w O hk
  have e18:a.eval (.tmp 18)=.pointer (some ⟨gi,0,none⟩):=hk.fact 1 _ 18 rfl rfl rfl rfl
  exact obE_run (wanted_none rfl) (by unfold execOp;simp only [];rw [e18];go_simp) rfl
 ·refine ⟨⟨fun τ=>stableE_det _,leans_not⟩,?_⟩
  intro a w O hk
  have e19:a.eval (.tmp 19)=.pointer (some ⟨gi,0,none⟩):=hk.fact 2 _ 19 rfl rfl rfl rfl
  exact obE_run (wanted_none rfl) (by unfold execOp;simp only [];rw [e19];go_simp) rfl
 ·refine ⟨⟨fun τ=>stableE_det _,leans_not⟩,?_⟩
  intro a w O hk
  have e20:a.eval (.tmp 20)=.pointer (some ⟨gi,3,none⟩):=hk.fact 3 _ 20 rfl rfl rfl rfl
  have xI:=(hk.fix gi (est2_fix (blk_lt hI) (fun e=>hn2 e) (fun e=>e))).trans hI
  have c3:=(row4 xI).2.2.2.1
  exact obE_run (wanted_none rfl) (by unfold execOp;simp only [];rw [e20];go_simp) rfl
 ·refine ⟨⟨fun τ=>(fun v w w' O h hz hk=>⟨(hk gR (blk_lt h.1) (.inr h.2)).trans h.1,h.2⟩),leans_not⟩,?_⟩
  intro a w O hk
  have e2:a.eval (.tmp 2)=.pointer (some ⟨gR,0,none⟩):=(hk.init 2 (initialB_of_nw nw2)).trans hi2
  have e17:a.eval (.tmp 17)=.agg #[.int .i64 0,.string ⟨#[]⟩,.int .i64 0,.int .i64 0,.int .i64 0,.string ⟨#[]⟩,.int .i64 0,.int .i64 0,.slice none 0 0,.slice none 0 0,.slice none 0 0,.int .i64 0,.int .i64 0,.string ⟨#[]⟩,.int .i64 0,.int .i64 0,.slice none 0 0,.slice none 0 0,.slice none 0 0,.int .i64 0,.slice none 0 0]:=hk.fact 0 _ 17 rfl rfl rfl rfl
  have xR:=(hk.est 5 _ rfl (.inl rfl) gR (.inl ⟨rfl,rfl⟩)).trans hR
  have hs:=run_storeVar_row (P:=Try.prog) w gR 30 30 _ #[.int .i64 0,.string ⟨#[]⟩,.int .i64 0,.int .i64 0,.int .i64 0,.string ⟨#[]⟩,.int .i64 0,.int .i64 0,.slice none 0 0,.slice none 0 0,.slice none 0 0,.int .i64 0,.int .i64 0,.string ⟨#[]⟩,.int .i64 0,.int .i64 0,.slice none 0 0,.slice none 0 0,.slice none 0 0,.int .i64 0,.slice none 0 0] xR (by kernel_rfl) rfl (dz_one)
  refine obE_store (w':=w.setRow gR #[.int .i64 0,.string ⟨#[]⟩,.int .i64 0,.int .i64 0,.int .i64 0,.string ⟨#[]⟩,.int .i64 0,.int .i64 0,.slice none 0 0,.slice none 0 0,.slice none 0 0,.int .i64 0,.int .i64 0,.string ⟨#[]⟩,.int .i64 0,.int .i64 0,.slice none 0 0,.slice none 0 0,.slice none 0 0,.int .i64 0,.slice none 0 0]) (fun k=>k=gR) (wanted_none rfl) (by unfold execOp;simp only [];rw [e2,e17];simp only [Instr.storeAt,Instr.sureAddr,Sem.run_bind,Sem.run_pure,Result.andThen_ok,hs]) ⟨rfl,rfl,rfl,Nat.le_of_eq (size_setRow _ _ _).symm,fun k _ hn=>setRow_other w gR k _ (fun e=>hn (.inr (.inl ⟨rfl,e⟩)))⟩ ⟨setRow_heap w gR _ _ _ _ xR,rfl⟩ (fun k h=>.inl (.inr (.inl ⟨rfl,h⟩)))
 ·refine ⟨⟨fun τ=>stableE_det _,leans_not⟩,?_⟩
  intro a w O hk
  exact toE (ob_assign rfl rfl (wanted_none rfl) rfl)
 ·refine ⟨⟨fun τ=>stableE_det _,leans_not⟩,?_⟩
  intro a w O hk
  have e21:a.eval (.tmp 21)=.int .i64 er:=hk.fact 4 _ 21 rfl rfl rfl rfl
  exact toE (ob_assign rfl e21 (wanted_none rfl) rfl)
set_option maxRecDepth 100000 in
set_option maxHeartbeats 8000000 in
theorem tk4_region {Q:Exit→Act→World→Prop} {id:Nat} (w0:World) (gR gi n6 c6:Nat) (A6:Option Addr) (N6 m6 er:Int) {s0 s1 s6 s7 s8 s9 s10 s11 s12 s13 s14 s15 s16 s17 s18 s19 s20 s21 s22 s23 s24 s25 s26 s27 s28 s29 s30:Value} (hR:w0.heap[gR]?=some dzO) (hI:w0.heap[gi]?=some (rdB A6 n6 c6 N6 m6 er)) (hn2:gi≠gR)
  (hend:∀ (w':World) (v5:Value) (O5:Nat→Prop),Chg (fun k=>(fun k=>k=gR) k∨(fun _=>False) k) w0 w'→(w'.heap[gR]?=some (dzO)∧O5 gR)→(∀ k,O5 k→k<w'.heap.size∧¬ Fix w0 (est2 5 0 (fun k=>k=gR) (fun _=>False)) k)→Q .normal { tmps:=(s0 :: s1 :: (.pointer (some ⟨gR,0,none⟩)) :: (.int .i64 0) :: (.int .i64 er) :: (.pointer (some ⟨gi,0,none⟩)) :: s6 :: s7 :: s8 :: s9 :: s10 :: s11 :: s12 :: s13 :: s14 :: s15 :: s16 :: (.agg #[.int .i64 0,.string ⟨#[]⟩,.int .i64 0,.int .i64 0,.int .i64 0,.string ⟨#[]⟩,.int .i64 0,.int .i64 0,.slice none 0 0,.slice none 0 0,.slice none 0 0,.int .i64 0,.int .i64 0,.string ⟨#[]⟩,.int .i64 0,.int .i64 0,.slice none 0 0,.slice none 0 0,.slice none 0 0,.int .i64 0,.slice none 0 0]) :: (.pointer (some ⟨gi,0,none⟩)) :: (.pointer (some ⟨gi,0,none⟩)) :: (.pointer (some ⟨gi,3,none⟩)) :: (.int .i64 er) :: s22 :: s23 :: s24 :: s25 :: s26 :: s27 :: s28 :: s29 :: s30 :: []:List Value).toArray,defers:=[] } w') :
  (Code.region id tk4_ops.toArray true).wp Try.prog Q { tmps:=(s0 :: s1 :: (.pointer (some ⟨gR,0,none⟩)) :: (.int .i64 0) :: (.int .i64 0) :: (.pointer (some ⟨gi,0,none⟩)) :: s6 :: s7 :: s8 :: s9 :: s10 :: s11 :: s12 :: s13 :: s14 :: s15 :: s16 :: s17 :: s18 :: s19 :: s20 :: s21 :: s22 :: s23 :: s24 :: s25 :: s26 :: s27 :: s28 :: s29 :: s30 :: []:List Value).toArray,defers:=[] } w0:=by
 refine wp_region_est (by kernel_rfl) (est2 5 0 (fun k=>k=gR) (fun _=>False)) tk4_C (tk4_F w0 gR gi n6 c6 A6 N6 m6 er) (est2_dis (fun _ _ h=>h)) (est2_range (fun k hk=>hk ▸ blk_lt hR) (fun _ h=>h.elim)) (by rfl) (by kernel_rfl) (tk4_obs w0.drew gR gi n6 c6 A6 N6 m6 er hR hI hn2 _ _ rfl rfl rfl rfl) ?_
 intro a w' O hd hs hb hf hf2 ha hsame
 have hl:=slots_eq (ops:=tk4_ops.toArray) [(3,.int .i64 0),(4,.int .i64 er),(17,.agg #[.int .i64 0,.string ⟨#[]⟩,.int .i64 0,.int .i64 0,.int .i64 0,.string ⟨#[]⟩,.int .i64 0,.int .i64 0,.slice none 0 0,.slice none 0 0,.slice none 0 0,.int .i64 0,.int .i64 0,.string ⟨#[]⟩,.int .i64 0,.int .i64 0,.slice none 0 0,.slice none 0 0,.slice none 0 0,.int .i64 0,.slice none 0 0]),(18,.pointer (some ⟨gi,0,none⟩)),(19,.pointer (some ⟨gi,0,none⟩)),(20,.pointer (some ⟨gi,3,none⟩)),(21,.int .i64 er)] (show a.tmps.size=31 from hs) (fun i h=>hsame i h) ⟨(hf 6 _ 3 rfl rfl (by decide)).1,(hf 7 _ 4 rfl rfl (by decide)).1,(hf 0 _ 17 rfl rfl (by decide)).1,(hf 1 _ 18 rfl rfl (by decide)).1,(hf 2 _ 19 rfl rfl (by decide)).1,(hf 3 _ 20 rfl rfl (by decide)).1,(hf 4 _ 21 rfl rfl (by decide)).1,trivial⟩ (by kernel_rfl)
 obtain ⟨tmps,defers⟩:=a
 obtain rfl:defers=[]:=hd
 have hl':tmps=_:=hl
 rw [hl']
 obtain ⟨⟨v5,hv5⟩,ho5⟩:=hf2 5 _ rfl rfl (by decide)
 have hb':=est2_chg hb
 refine Eq.mp ?_ (hend w' v5 (O 5) ⟨hb'.os,hb'.tape,hb'.output,hb'.size,hb'.block⟩ hv5 ho5)
 kernel_rfl

def tk5_ops:List Oper:=[
 { dst:=some 22,op:=Go.Op.load 30 (Go.Operand.tmp 6),type:=30,pos:= "decl.go:291",after:=#[],guard:=none },
 { dst:=some 23,op:=Go.Op.move (Go.Operand.tmp 0),type:=31,pos:= "decl.go:291",after:=#[],guard:=none },
 { dst:=some 24,op:=Go.Op.call { callee:=Go.Callee.builtin Go.Builtin.len,args:=#[Go.Operand.tmp 23],argTypes:=#[31] },type:=3,pos:= "decl.go:291",after:=#[{ on:=1,ground:=Go.Ground.data }],guard:=none },
 { dst:=some 25,op:=Go.Op.move (Go.Operand.tmp 5),type:=97,pos:= "decl.go:291",after:=#[],guard:=none },
 { dst:=some 26,op:=Go.Op.nilCheck (Go.Operand.tmp 25),type:=0,pos:= "decl.go:291",after:=#[{ on:=3,ground:=Go.Ground.data }],guard:=none },
 { dst:=some 27,op:=Go.Op.fieldAddr 99 (Go.Operand.tmp 26) 0,type:=0,pos:= "decl.go:291",after:=#[{ on:=4,ground:=Go.Ground.data }],guard:=none },
 { dst:=some 28,op:=Go.Op.load 31 (Go.Operand.tmp 27),type:=31,pos:= "decl.go:291",after:=#[{ on:=5,ground:=Go.Ground.data }],guard:=none },
 { dst:=some 29,op:=Go.Op.call { callee:=Go.Callee.builtin Go.Builtin.len,args:=#[Go.Operand.tmp 28],argTypes:=#[31] },type:=3,pos:= "decl.go:291",after:=#[{ on:=6,ground:=Go.Ground.data }],guard:=none },
 { dst:=some 30,op:=Go.Op.binOp Go.BinOp.sub 3 (Go.Operand.tmp 24) (Go.Operand.tmp 29) 3,type:=3,pos:= "decl.go:291",after:=#[{ on:=2,ground:=Go.Ground.data },{ on:=7,ground:=Go.Ground.data },{ on:=9,ground:=Go.Ground.gcOnly Go.Departure.lateStores }],guard:=none },
 { dst:=none,op:=Go.Op.store 30 (Go.Operand.tmp 2) (Go.Operand.tmp 22),type:=0,pos:= "decl.go:291",after:=#[{ on:=0,ground:=Go.Ground.data },{ on:=0,ground:=Go.Ground.phase },{ on:=1,ground:=Go.Ground.textOnly Go.Departure.lateStores },{ on:=2,ground:=Go.Ground.textOnly Go.Departure.lateStoresUnsure },{ on:=3,ground:=Go.Ground.textOnly Go.Departure.lateStores },{ on:=4,ground:=Go.Ground.textOnly Go.Departure.lateStores },{ on:=5,ground:=Go.Ground.textOnly Go.Departure.lateStores },{ on:=6,ground:=Go.Ground.textOnly Go.Departure.lateStores },{ on:=7,ground:=Go.Ground.textOnly Go.Departure.lateStoresUnsure },{ on:=8,ground:=Go.Ground.textOnly Go.Departure.lateStores }],guard:=none },
 { dst:=some 3,op:=Go.Op.assign (Go.Operand.tmp 30),type:=3,pos:= "decl.go:291",after:=#[{ on:=8,ground:=Go.Ground.data },{ on:=9,ground:=Go.Ground.chain },{ on:=0,ground:=Go.Ground.phase },{ on:=1,ground:=Go.Ground.phase },{ on:=2,ground:=Go.Ground.phase },{ on:=3,ground:=Go.Ground.phase },{ on:=4,ground:=Go.Ground.phase },{ on:=5,ground:=Go.Ground.phase },{ on:=6,ground:=Go.Ground.phase },{ on:=7,ground:=Go.Ground.phase },{ on:=8,ground:=Go.Ground.phase },{ on:=9,ground:=Go.Ground.phase }],guard:=none },
 { dst:=some 4,op:=Go.Op.assign (Go.Operand.const (Go.Value.int Go.IntKind.i64 0)),type:=32,pos:= "decl.go:291",after:=#[{ on:=10,ground:=Go.Ground.chain },{ on:=0,ground:=Go.Ground.phase },{ on:=1,ground:=Go.Ground.phase },{ on:=2,ground:=Go.Ground.phase },{ on:=3,ground:=Go.Ground.phase },{ on:=4,ground:=Go.Ground.phase },{ on:=5,ground:=Go.Ground.phase },{ on:=6,ground:=Go.Ground.phase },{ on:=7,ground:=Go.Ground.phase },{ on:=8,ground:=Go.Ground.phase },{ on:=9,ground:=Go.Ground.phase },{ on:=10,ground:=Go.Ground.phase }],guard:=none }]
def tk5_F (w0:World) (gR gx gi n n6 c c6:Nat) (A A6:Option Addr) (N6 m6 er:Int) (P:DPl) (d:Dc):Nat→(Nat→Value)→Value→World→(Nat→Prop)→Prop:=fun rix=>match rix with
 | 0=>fun _ v _ _=>v=dcV P d
 | 1=>fun _ v _ _=>v=.slice A n c
 | 2=>fun _ v _ _=>v=.int .i64 n
 | 3=>fun _ v _ _=>v=.pointer (some ⟨gi,0,none⟩)
 | 4=>fun _ v _ _=>v=.pointer (some ⟨gi,0,none⟩)
 | 5=>fun _ v _ _=>v=.pointer (some ⟨gi,0,none⟩)
 | 6=>fun _ v _ _=>v=.slice A6 n6 c6
 | 7=>fun _ v _ _=>v=.int .i64 n6
 | 8=>fun _ v _ _=>v=.int .i64 (IntKind.i64.wrap ((n:Int) - n6))
 | 9=>fun τ v w O=>w.heap[gR]?=some (dcO P d)∧O gR
 | 10=>fun _ v _ _=>v=.int .i64 (IntKind.i64.wrap ((n:Int) - n6))
 | 11=>fun _ v _ _=>v=.int .i64 0
 | _=>fun _ _ _ _=>True
def tk5_C:Nat→List Nat:=fun rix=>match rix with
 | _=>[]
theorem tk5_nw0:nwB tk5_ops.toArray 0=true:=by kernel_rfl
theorem tk5_nw2:nwB tk5_ops.toArray 2=true:=by kernel_rfl
theorem tk5_nw5:nwB tk5_ops.toArray 5=true:=by kernel_rfl
theorem tk5_nw6:nwB tk5_ops.toArray 6=true:=by kernel_rfl
set_option maxRecDepth 100000 in
set_option maxHeartbeats 8000000 in
theorem tk5_obs (w0:World) (gR gx gi n n6 c c6:Nat) (A A6:Option Addr) (N6 m6 er:Int) (P:DPl) (d:Dc) (hR:w0.heap[gR]?=some dzO) (hX:w0.heap[gx]?=some (dcO P d)) (hI:w0.heap[gi]?=some (rdB A6 n6 c6 N6 m6 er)) (hn1:gx≠gR) (hn2:gi≠gR) (Q:Exit→Act→World→Prop) (a0:Act) (hi0:a0.tmps.getD 0 undef=.slice A n c) (hi2:a0.tmps.getD 2 undef=.pointer (some ⟨gR,0,none⟩)) (hi3:a0.tmps.getD 3 undef=.int .i64 0) (hi4:a0.tmps.getD 4 undef=.int .i64 0) (hi5:a0.tmps.getD 5 undef=.pointer (some ⟨gi,0,none⟩)) (hi6:a0.tmps.getD 6 undef=.pointer (some ⟨gx,0,none⟩)) :
  ObsE Try.prog tk5_ops.toArray Q (est2 9 0 (fun k=>k=gR) (fun _=>False)) tk5_C (tk5_F w0 gR gx gi n n6 c c6 A A6 N6 m6 er P d) a0 w0 tk5_ops.toArray.toList 0:=by
 have nw0:=tk5_nw0
 have nw2:=tk5_nw2
 have nw5:=tk5_nw5
 have nw6:=tk5_nw6
 refine ⟨?_,?_,?_,?_,?_,?_,?_,?_,?_,?_,?_,?_,trivial⟩
 ·refine ⟨⟨fun τ=>stableE_det _,leans_not⟩,?_⟩
  intro a w O hk
  have e6:a.eval (.tmp 6)=.pointer (some ⟨gx,0,none⟩):=(hk.init 6 (initialB_of_nw nw6)).trans hi6
  have xX:=(hk.fix gx (est2_fix (blk_lt hX) (fun e=>hn1 e) (fun e=>e))).trans hX
  exact obE_loadRow rfl e6 xX Try.underlying30 rfl (by kernel_rfl) (wanted_none rfl) rfl
 ·refine ⟨⟨fun τ=>stableE_det _,leans_not⟩,?_⟩
  intro a w O hk
  have e0:a.eval (.tmp 0)=.slice A n c:=(hk.init 0 (initialB_of_nw nw0)).trans hi0
  exact toE (ob_move rfl e0 (wanted_none rfl) rfl)
 ·refine ⟨⟨fun τ=>stableE_det _,leans_not⟩,?_⟩
  intro a w O hk
  have e23:a.eval (.tmp 23)=.slice A n c:=hk.fact 1 _ 23 rfl rfl rfl rfl
  exact toE (ob_len rfl e23 Try.underlying31 (wanted_none rfl) rfl)
 ·refine ⟨⟨fun τ=>stableE_det _,leans_not⟩,?_⟩
  intro a w O hk
  have e5:a.eval (.tmp 5)=.pointer (some ⟨gi,0,none⟩):=(hk.init 5 (initialB_of_nw nw5)).trans hi5
  exact toE (ob_move rfl e5 (wanted_none rfl) rfl)
 ·refine ⟨⟨fun τ=>stableE_det _,leans_not⟩,?_⟩
  intro a w O hk
  have e25:a.eval (.tmp 25)=.pointer (some ⟨gi,0,none⟩):=hk.fact 3 _ 25 rfl rfl rfl rfl
  exact obE_run (wanted_none rfl) (by unfold execOp;simp only [];rw [e25];go_simp) rfl
 ·refine ⟨⟨fun τ=>stableE_det _,leans_not⟩,?_⟩
  intro a w O hk
  have e26:a.eval (.tmp 26)=.pointer (some ⟨gi,0,none⟩):=hk.fact 4 _ 26 rfl rfl rfl rfl
  exact obE_run (wanted_none rfl) (by unfold execOp;simp only [];rw [e26];go_simp) rfl
 ·refine ⟨⟨fun τ=>stableE_det _,leans_not⟩,?_⟩
  intro a w O hk
  have e27:a.eval (.tmp 27)=.pointer (some ⟨gi,0,none⟩):=hk.fact 5 _ 27 rfl rfl rfl rfl
  have xI:=(hk.fix gi (est2_fix (blk_lt hI) (fun e=>hn2 e) (fun e=>e))).trans hI
  have c0:=(row4 xI).1
  exact toE (ob_loadSlice rfl e27 Try.underlying31 c0 (wanted_none rfl) rfl)
 ·refine ⟨⟨fun τ=>stableE_det _,leans_not⟩,?_⟩
  intro a w O hk
  have e28:a.eval (.tmp 28)=.slice A6 n6 c6:=hk.fact 6 _ 28 rfl rfl rfl rfl
  exact toE (ob_len rfl e28 Try.underlying31 (wanted_none rfl) rfl)
 ·refine ⟨⟨fun τ=>stableE_det _,leans_not⟩,?_⟩
  intro a w O hk
  have e24:a.eval (.tmp 24)=.int .i64 n:=hk.fact 2 _ 24 rfl rfl rfl rfl
  have e29:a.eval (.tmp 29)=.int .i64 n6:=hk.fact 7 _ 29 rfl rfl rfl rfl
  exact obE_run (wanted_none rfl) (by unfold execOp;simp only [];rw [e24,e29];go_simp) rfl
 ·refine ⟨⟨fun τ=>(fun v w w' O h hz hk=>⟨(hk gR (blk_lt h.1) (.inr h.2)).trans h.1,h.2⟩),leans_not⟩,?_⟩
  intro a w O hk
  have e2:a.eval (.tmp 2)=.pointer (some ⟨gR,0,none⟩):=(hk.init 2 (initialB_of_nw nw2)).trans hi2
  have e22:a.eval (.tmp 22)=dcV P d:=hk.fact 0 _ 22 rfl rfl rfl rfl
  have xR:=(hk.est 9 _ rfl (.inl rfl) gR (.inl ⟨rfl,rfl⟩)).trans hR
  have hs:=run_storeVar_row (P:=Try.prog) w gR 30 30 _ #[.int .i64 d.kind,.string d.nm,.int .i64 d.vars,.int .i64 d.ty.kind,.int .i64 d.ty.num,.string d.ty.name,.int .i64 d.ty.lv.kind,.int .i64 d.ty.lv.num,.slice P.pt.A d.ty.lv.kids.length P.pt.c,.slice P.pt.B d.ty.ls.length P.pt.d,.slice P.pt.K d.ty.kids.length P.pt.e,.int .i64 d.val.kind,.int .i64 d.val.num,.string d.val.name,.int .i64 d.val.lv.kind,.int .i64 d.val.lv.num,.slice P.pv.A d.val.lv.kids.length P.pv.c,.slice P.pv.B d.val.ls.length P.pv.d,.slice P.pv.K d.val.kids.length P.pv.e,.int .i64 d.params,.slice P.C d.cs.length P.e] xR (by kernel_rfl) rfl (dc_one P d)
  refine obE_store (w':=w.setRow gR #[.int .i64 d.kind,.string d.nm,.int .i64 d.vars,.int .i64 d.ty.kind,.int .i64 d.ty.num,.string d.ty.name,.int .i64 d.ty.lv.kind,.int .i64 d.ty.lv.num,.slice P.pt.A d.ty.lv.kids.length P.pt.c,.slice P.pt.B d.ty.ls.length P.pt.d,.slice P.pt.K d.ty.kids.length P.pt.e,.int .i64 d.val.kind,.int .i64 d.val.num,.string d.val.name,.int .i64 d.val.lv.kind,.int .i64 d.val.lv.num,.slice P.pv.A d.val.lv.kids.length P.pv.c,.slice P.pv.B d.val.ls.length P.pv.d,.slice P.pv.K d.val.kids.length P.pv.e,.int .i64 d.params,.slice P.C d.cs.length P.e]) (fun k=>k=gR) (wanted_none rfl) (by unfold execOp;simp only [];rw [e2,e22];simp only [dcV,Instr.storeAt,Instr.sureAddr,Sem.run_bind,Sem.run_pure,Result.andThen_ok,hs]) ⟨rfl,rfl,rfl,Nat.le_of_eq (size_setRow _ _ _).symm,fun k _ hn=>setRow_other w gR k _ (fun e=>hn (.inr (.inl ⟨rfl,e⟩)))⟩ ⟨setRow_heap w gR _ _ _ _ xR,rfl⟩ (fun k h=>.inl (.inr (.inl ⟨rfl,h⟩)))
 ·refine ⟨⟨fun τ=>stableE_det _,leans_not⟩,?_⟩
  intro a w O hk
  have e30:a.eval (.tmp 30)=.int .i64 (IntKind.i64.wrap ((n:Int) - n6)):=hk.fact 8 _ 30 rfl rfl rfl rfl
  exact toE (ob_assign rfl e30 (wanted_none rfl) rfl)
 ·refine ⟨⟨fun τ=>stableE_det _,leans_not⟩,?_⟩
  intro a w O hk
  exact toE (ob_assign rfl rfl (wanted_none rfl) rfl)
set_option maxRecDepth 100000 in
set_option maxHeartbeats 8000000 in
theorem tk5_region {Q:Exit→Act→World→Prop} {id:Nat} (w0:World) (gR gx gi n n6 c c6:Nat) (A A6:Option Addr) (N6 m6 er:Int) (P:DPl) (d:Dc) {s1 s7 s8 s9 s10 s11 s12 s13 s14 s15 s16 s17 s18 s19 s20 s21 s22 s23 s24 s25 s26 s27 s28 s29 s30:Value} (hR:w0.heap[gR]?=some dzO) (hX:w0.heap[gx]?=some (dcO P d)) (hI:w0.heap[gi]?=some (rdB A6 n6 c6 N6 m6 er)) (hn1:gx≠gR) (hn2:gi≠gR)
  (hend:∀ (w':World) (v9:Value) (O9:Nat→Prop),Chg (fun k=>(fun k=>k=gR) k∨(fun _=>False) k) w0 w'→(w'.heap[gR]?=some (dcO P d)∧O9 gR)→(∀ k,O9 k→k<w'.heap.size∧¬ Fix w0 (est2 9 0 (fun k=>k=gR) (fun _=>False)) k)→Q .normal { tmps:=((.slice A n c) :: s1 :: (.pointer (some ⟨gR,0,none⟩)) :: (.int .i64 (IntKind.i64.wrap ((n:Int) - n6))) :: (.int .i64 0) :: (.pointer (some ⟨gi,0,none⟩)) :: (.pointer (some ⟨gx,0,none⟩)) :: s7 :: s8 :: s9 :: s10 :: s11 :: s12 :: s13 :: s14 :: s15 :: s16 :: s17 :: s18 :: s19 :: s20 :: s21 :: (dcV P d) :: (.slice A n c) :: (.int .i64 n) :: (.pointer (some ⟨gi,0,none⟩)) :: (.pointer (some ⟨gi,0,none⟩)) :: (.pointer (some ⟨gi,0,none⟩)) :: (.slice A6 n6 c6) :: (.int .i64 n6) :: (.int .i64 (IntKind.i64.wrap ((n:Int) - n6))) :: []:List Value).toArray,defers:=[] } w') :
  (Code.region id tk5_ops.toArray true).wp Try.prog Q { tmps:=((.slice A n c) :: s1 :: (.pointer (some ⟨gR,0,none⟩)) :: (.int .i64 0) :: (.int .i64 0) :: (.pointer (some ⟨gi,0,none⟩)) :: (.pointer (some ⟨gx,0,none⟩)) :: s7 :: s8 :: s9 :: s10 :: s11 :: s12 :: s13 :: s14 :: s15 :: s16 :: s17 :: s18 :: s19 :: s20 :: s21 :: s22 :: s23 :: s24 :: s25 :: s26 :: s27 :: s28 :: s29 :: s30 :: []:List Value).toArray,defers:=[] } w0:=by
 refine wp_region_est (by kernel_rfl) (est2 9 0 (fun k=>k=gR) (fun _=>False)) tk5_C (tk5_F w0 gR gx gi n n6 c c6 A A6 N6 m6 er P d) (est2_dis (fun _ _ h=>h)) (est2_range (fun k hk=>hk ▸ blk_lt hR) (fun _ h=>h.elim)) (by rfl) (by kernel_rfl) (tk5_obs w0.drew gR gx gi n n6 c c6 A A6 N6 m6 er P d hR hX hI hn1 hn2 _ _ rfl rfl rfl rfl rfl rfl) ?_
 intro a w' O hd hs hb hf hf2 ha hsame
 have hl:=slots_eq (ops:=tk5_ops.toArray) [(3,.int .i64 (IntKind.i64.wrap ((n:Int) - n6))),(4,.int .i64 0),(22,dcV P d),(23,.slice A n c),(24,.int .i64 n),(25,.pointer (some ⟨gi,0,none⟩)),(26,.pointer (some ⟨gi,0,none⟩)),(27,.pointer (some ⟨gi,0,none⟩)),(28,.slice A6 n6 c6),(29,.int .i64 n6),(30,.int .i64 (IntKind.i64.wrap ((n:Int) - n6)))] (show a.tmps.size=31 from hs) (fun i h=>hsame i h) ⟨(hf 10 _ 3 rfl rfl (by decide)).1,(hf 11 _ 4 rfl rfl (by decide)).1,(hf 0 _ 22 rfl rfl (by decide)).1,(hf 1 _ 23 rfl rfl (by decide)).1,(hf 2 _ 24 rfl rfl (by decide)).1,(hf 3 _ 25 rfl rfl (by decide)).1,(hf 4 _ 26 rfl rfl (by decide)).1,(hf 5 _ 27 rfl rfl (by decide)).1,(hf 6 _ 28 rfl rfl (by decide)).1,(hf 7 _ 29 rfl rfl (by decide)).1,(hf 8 _ 30 rfl rfl (by decide)).1,trivial⟩ (by kernel_rfl)
 obtain ⟨tmps,defers⟩:=a
 obtain rfl:defers=[]:=hd
 have hl':tmps=_:=hl
 rw [hl']
 obtain ⟨⟨v9,hv9⟩,ho9⟩:=hf2 9 _ rfl rfl (by decide)
 have hb':=est2_chg hb
 refine Eq.mp ?_ (hend w' v9 (O 9) ⟨hb'.os,hb'.tape,hb'.output,hb'.size,hb'.block⟩ hv9 ho9)
 kernel_rfl

end Go.Proofs.Ytcgkeolgflphiaa

namespace Go.Proofs.Ytcgkeolgflphiaa
open Go.RowKit Go.Proofs.YtcgkeolgflphiaaW.PrintWords Go.RegionInvYtcgkeolgflphiaa

theorem dcB_pos1 (d:Dc):1≤(dcB d).length:=by have:=dcB_len3 d;omega
theorem dz_in (w:World) (S:Nat→Prop):DcS w S pl00 dz:=⟨noT_in _ _,noT_in _ _,⟨Nat.le_refl _,Nat.zero_le _⟩,by decide,fun i c h=>by simp at h⟩
set_option maxRecDepth 100000 in
set_option maxHeartbeats 8000000 in
theorem take1_calls (A:Option Addr) (n c:Nat) (xs:List Int) (w:World) (h:Bs w w.heap.size A n c xs) :
  Calls Try.prog 43 #[.slice A n c] w (TakeP eDc dcV (dcR xs) xs w):=by
 have HS:=Ak h
 have HR1:=Ak (bs_new (O1:=dzO) (N:=0) (m:=0) h)
 have hb1:=below_alloc (below_alloc (Below.refl w.heap.size w) dzO) (rdB A n c 0 0 0)
 have HX1:=Ak (blk_alloc (blk_new w dzO) (rdB A n c 0 0 0))
 have HB1:=Ak hb1
 have HZ1:=Ak (show ((w.alloc dzO).alloc (rdB A n c 0 0 0)).heap.size=w.heap.size+2 by simp)
 clear h hb1
 go_enter Try.func43,Try.ntmps43
 go_upto_region 2 with (fail)
 obtain ⟨W1,hW1⟩:∃ W1,W1=(w.alloc dzO).alloc (rdB A n c 0 0 0):=⟨_,rfl⟩
 rw [← hW1] at HR1 HX1 HB1 HZ1 ⊢
 clear hW1
 go_upto_region 3 with (first
  | (go_at_call 68;go_must (refine (decl_any (w.heap.size+1) (.ok xs) _ ⟨0,0,HR1.out⟩).mono ?_;rintro e w5 ⟨P5,d5,rfl,hl5,hc5,hm5,hv5⟩;have HX5:=Ak ((hc5.block _ (blk_lt HX1.out) (by omega)).trans HX1.out);have HL5:=Ak hl5;have HC5:=Ak hc5;have HV5:=Ak hv5;have HM5:=Ak (RS.box hm5);clear hl5 hc5 hm5 hv5;simp only [dcV]))
  | (refine wpList_store_row rfl 30 _ _ rfl w5.heap.size #[.int .i64 d5.kind,.string d5.nm,.int .i64 d5.vars,.int .i64 d5.ty.kind,.int .i64 d5.ty.num,.string d5.ty.name,.int .i64 d5.ty.lv.kind,.int .i64 d5.ty.lv.num,.slice P5.pt.A d5.ty.lv.kids.length P5.pt.c,.slice P5.pt.B d5.ty.ls.length P5.pt.d,.slice P5.pt.K d5.ty.kids.length P5.pt.e,.int .i64 d5.val.kind,.int .i64 d5.val.num,.string d5.val.name,.int .i64 d5.val.lv.kind,.int .i64 d5.val.lv.num,.slice P5.pv.A d5.val.lv.kids.length P5.pv.c,.slice P5.pv.B d5.val.ls.length P5.pv.d,.slice P5.pv.K d5.val.kids.length P5.pv.e,.int .i64 d5.params,.slice P5.C d5.cs.length P5.e] rfl rfl 30 #[.int .i64 0,.string ⟨#[]⟩,.int .i64 0,.int .i64 0,.int .i64 0,.string ⟨#[]⟩,.int .i64 0,.int .i64 0,.slice none 0 0,.slice none 0 0,.slice none 0 0,.int .i64 0,.int .i64 0,.string ⟨#[]⟩,.int .i64 0,.int .i64 0,.slice none 0 0,.slice none 0 0,.slice none 0 0,.int .i64 0,.slice none 0 0] (blk_new _ _) (by kernel_rfl) rfl (all_one (l:=[.int .i64 d5.kind,.string d5.nm,.int .i64 d5.vars,.int .i64 d5.ty.kind,.int .i64 d5.ty.num,.string d5.ty.name,.int .i64 d5.ty.lv.kind,.int .i64 d5.ty.lv.num,.slice P5.pt.A d5.ty.lv.kids.length P5.pt.c,.slice P5.pt.B d5.ty.ls.length P5.pt.d,.slice P5.pt.K d5.ty.kids.length P5.pt.e,.int .i64 d5.val.kind,.int .i64 d5.val.num,.string d5.val.name,.int .i64 d5.val.lv.kind,.int .i64 d5.val.lv.num,.slice P5.pv.A d5.val.lv.kids.length P5.pv.c,.slice P5.pv.B d5.val.ls.length P5.pv.d,.slice P5.pv.K d5.val.kids.length P5.pv.e,.int .i64 d5.params,.slice P5.C d5.cs.length P5.e]) rfl) ?_))
 obtain ⟨A6,n6,c6,N6,m6,er,hg6,hsem⟩:=HM5.out
 have hbx:=dc_boxed w5 P5 d5
 have HY6:=Ak hbx.1
 have HG6:=Ak (blk_below hg6 hbx.2)
 have HX6:=Ak (blk_below HX5.out hbx.2)
 have HC6:=Ak (chg_trans HC5.out (Chg.of_below hbx.2))
 have HL6:=Ak (HL5.out.same fun k _ hk=>hbx.2.block k hk)
 have HGX:=Ak (show w5.heap.size≠w.heap.size by have:=blk_lt HX5.out;omega)
 obtain ⟨gx,hgx⟩:∃ gx,gx=w5.heap.size:=⟨_,rfl⟩
 obtain ⟨W6,hW6⟩:∃ W6,W6=(w5.alloc (.cells #[.int .i64 0,.string ⟨#[]⟩,.int .i64 0,.int .i64 0,.int .i64 0,.string ⟨#[]⟩,.int .i64 0,.int .i64 0,.slice none 0 0,.slice none 0 0,.slice none 0 0,.int .i64 0,.int .i64 0,.string ⟨#[]⟩,.int .i64 0,.int .i64 0,.slice none 0 0,.slice none 0 0,.slice none 0 0,.int .i64 0,.slice none 0 0] 30 (0,0))).setRow w5.heap.size #[.int .i64 d5.kind,.string d5.nm,.int .i64 d5.vars,.int .i64 d5.ty.kind,.int .i64 d5.ty.num,.string d5.ty.name,.int .i64 d5.ty.lv.kind,.int .i64 d5.ty.lv.num,.slice P5.pt.A d5.ty.lv.kids.length P5.pt.c,.slice P5.pt.B d5.ty.ls.length P5.pt.d,.slice P5.pt.K d5.ty.kids.length P5.pt.e,.int .i64 d5.val.kind,.int .i64 d5.val.num,.string d5.val.name,.int .i64 d5.val.lv.kind,.int .i64 d5.val.lv.num,.slice P5.pv.A d5.val.lv.kids.length P5.pv.c,.slice P5.pv.B d5.val.ls.length P5.pv.d,.slice P5.pv.K d5.val.kids.length P5.pv.e,.int .i64 d5.params,.slice P5.C d5.cs.length P5.e]:=⟨_,rfl⟩
 replace HY6:Aside0 (W6.heap[w5.heap.size]?=some (dcO P5 d5)):=by rw [hW6];exact HY6
 replace HG6:Aside0 (W6.heap[w.heap.size+1]?=some (rdB A6 n6 c6 N6 m6 er)):=by rw [hW6];exact HG6
 replace HX6:Aside0 (W6.heap[w.heap.size]?=some dzO):=by rw [hW6];exact HX6
 replace HC6:Aside0 (Chg (fun k=>k=w.heap.size+1) W1 W6):=by rw [hW6];exact HC6
 replace HL6:Aside0 (DcS W6 (fun b=>W1.heap.size≤b) P5 d5):=by rw [hW6];exact HL6
 rw [← hW6]
 rw [← hgx] at HY6 HGX ⊢
 clear hg6 hgx hW6 hbx HX5 HL5 HC5 HM5
 obtain ⟨-,-,-,c3,-,-,-,-⟩:=row4 HG6.out
 cases hR:dcR xs with
 | error k =>
  have hs2:er=k∧k≠0:=by have h:=hsem;rw [show nextR (.ok xs) dcR=dcR xs from rfl,hR] at h;exact h
  obtain ⟨rfl,hne⟩:=hs2
  have he':(er != 0)=true:=by simp [hne]
  have HNE:=Ak hne
  have HRE:=Ak hR
  clear hR hsem hne
  go_upto_region 4 with (fail)
  refine tk4_region W6 w.heap.size (w.heap.size+1) n6 c6 A6 N6 m6 er HX6.out HG6.out (by omega) ?_
  intro w7 v13 O13 hch hx7 hO
  have HX7:=Ak hx7.1
  have HC7:=Ak (hch.mono (S':=fun k=>k=w.heap.size) fun k h=>h.elim id False.elim)
  clear hch hx7 hO c3
  go_wp2
  refine bodyPost_ret (results_ctt rfl _ _ w.heap.size 30 #[.int .i64 0,.string ⟨#[]⟩,.int .i64 0,.int .i64 0,.int .i64 0,.string ⟨#[]⟩,.int .i64 0,.int .i64 0,.slice none 0 0,.slice none 0 0,.slice none 0 0,.int .i64 0,.int .i64 0,.string ⟨#[]⟩,.int .i64 0,.int .i64 0,.slice none 0 0,.slice none 0 0,.slice none 0 0,.int .i64 0,.slice none 0 0] (0,0) _ rfl HX7.out Try.underlying30 rfl (by kernel_rfl)) rfl ?_
  exact ⟨pl00,dz,0,er,rfl,dz_in _ _,close_below HB1.out HZ1.out HC6.out HC7.out,by rw [HRE.out];exact ⟨rfl,HNE.out⟩⟩
 | ok y =>
  have hs2:er=0:=by have h:=hsem;rw [show nextR (.ok xs) dcR=dcR xs from rfl,hR] at h;exact h.1
  subst hs2
  have HSEM:=Ak hsem
  clear hR hsem
  go_upto_region 5 with (fail)
  refine tk5_region W6 w.heap.size gx (w.heap.size+1) n n6 c c6 A A6 N6 m6 0 P5 d5 HX6.out HY6.out HG6.out HGX.out (by omega) ?_
  intro w7 v13 O13 hch hx7 hO
  have HX7:=Ak hx7.1
  have HC7:=Ak (hch.mono (S':=fun k=>k=w.heap.size) fun k h=>h.elim id False.elim)
  clear hch hx7 hO c3
  go_wp2
  refine bodyPost_ret (results_ctt rfl _ _ w.heap.size 30 #[.int .i64 d5.kind,.string d5.nm,.int .i64 d5.vars,.int .i64 d5.ty.kind,.int .i64 d5.ty.num,.string d5.ty.name,.int .i64 d5.ty.lv.kind,.int .i64 d5.ty.lv.num,.slice P5.pt.A d5.ty.lv.kids.length P5.pt.c,.slice P5.pt.B d5.ty.ls.length P5.pt.d,.slice P5.pt.K d5.ty.kids.length P5.pt.e,.int .i64 d5.val.kind,.int .i64 d5.val.num,.string d5.val.name,.int .i64 d5.val.lv.kind,.int .i64 d5.val.lv.num,.slice P5.pv.A d5.val.lv.kids.length P5.pv.c,.slice P5.pv.B d5.val.ls.length P5.pv.d,.slice P5.pv.K d5.val.kids.length P5.pv.e,.int .i64 d5.params,.slice P5.C d5.cs.length P5.e] (0,0) _ rfl HX7.out Try.underlying30 rfl (by kernel_rfl)) rfl ?_
  exact ⟨P5,d5,_,0,rfl,close_mem eDc (p:=P5) HL6.out HZ1.out HC7.out,close_below HB1.out HZ1.out HC6.out HC7.out,took_of2 (b:=dcB) (R:=dcR xs) (fun t r hk=>dc_put HS.out.bytes hk) dcB_pos1 HS.out.reads.1 HS.out.len HSEM.out HV5.out⟩
end Go.Proofs.Ytcgkeolgflphiaa

namespace Go.Proofs.Ytcgkeolgflphiaa
open Go.RowKit Go.Proofs.YtcgkeolgflphiaaW.PrintWords Go.RegionInvYtcgkeolgflphiaa

def endR {α:Type}:Except Int (α × List Int)→Except Int α
 | .error e=>.error e
 | .ok (x,r)=>if r≠[] then .error 4 else .ok x
def EndP {α:Type} (x:α) (er:Int):Except Int α→Prop
 | .ok y=>x=y∧er=0
 | .error k=>er=k∧k≠0
theorem endR_form {α:Type} {x:α} {xs:List Int} {u:Nat} {R:Except Int (α × List Int)} (h:R=.ok (x,xs.drop u)) (hu:u<xs.length):endR R=.error 4:=by
 subst h
 simp only [endR]
 rw [if_pos]
 intro h
 have:=List.drop_eq_nil_iff.1 h
 omega
theorem endR_ok {α:Type} {x:α} {xs:List Int} {u:Nat} {R:Except Int (α × List Int)} (h:R=.ok (x,xs.drop u)) (hu:u=xs.length):endR R=.ok x:=by
 subst h
 simp only [endR]
 rw [if_neg]
 rw [hu,List.drop_length]
 exact fun h=>h rfl
theorem notNil_take1 (W:World):(binOp .eql 70 (.func (.func 43) #[] #[]) .nilFunc).run Try.prog W=.ok (.bool false) W:=by kernel_rfl
def WhD (w:World) (R:Except Int Dc) (e:Ending) (w':World):Prop:=
 ∃ P d er,e=.returned (.tuple #[dcV P d,.int .i64 er])∧DcS w' (fun b=>w.heap.size≤b) P d∧Below w.heap.size w w'∧EndP d er R
set_option maxRecDepth 100000 in
set_option maxHeartbeats 8000000 in
theorem wholeD_calls (A:Option Addr) (n c:Nat) (xs:List Int) (w:World) (h:Bs w w.heap.size A n c xs) :
  Calls Try.prog 42 #[.slice A n c,.func (.func 43) #[] #[]] w (WhD w (endR (dcR xs))):=by
 have hb1:=below_alloc (below_alloc (Below.refl w.heap.size w) dzO) dzO
 have HX1:=Ak (blk_alloc (blk_new w dzO) dzO)
 have HY1:=Ak (show ((w.alloc dzO).alloc dzO).heap[w.heap.size+1]?=some dzO by have:=blk_new (w.alloc dzO) dzO;simpa using this)
 have HS:=Ak ((h.chg (S:=fun _=>False) (Nat.le_refl _) (fun _ h=>h.elim) (Chg.of_below hb1)).mono hb1.size)
 have HB1:=Ak hb1
 have HZ1:=Ak (show ((w.alloc dzO).alloc dzO).heap.size=w.heap.size+2 by simp)
 have hnil:=notNil_take1
 have HXN:=Ak h.reads.1
 clear h hb1
 go_enter Try.func42,Try.ntmps42
 go_upto_region 2 with (fail)
 obtain ⟨W1,hW1⟩:∃ W1,W1=(w.alloc dzO).alloc dzO:=⟨_,rfl⟩
 rw [← hW1] at HS HX1 HY1 HB1 HZ1 ⊢
 clear hW1
 go_upto_region 5 with (first
  | (go_at_call 43;go_must (refine (take1_calls A n c xs _ HS.out).mono ?_;rintro e w2 ⟨P,d,cnt,er,rfl,hmem,hb,htk⟩;have HX2:=Ak (blk_below HX1.out hb);have HY2:=Ak (blk_below HY1.out hb);have HMEM:=Ak hmem;have HB2:=Ak (below_then HB1.out HB1.out.size hb);have HTK:=Ak htk;have HZ2:=Ak hb.size;clear hmem hb htk;simp only [dcV]))
  | (refine wpList_store_row rfl 30 _ _ rfl (w2.heap.size) #[.int .i64 d.kind,.string d.nm,.int .i64 d.vars,.int .i64 d.ty.kind,.int .i64 d.ty.num,.string d.ty.name,.int .i64 d.ty.lv.kind,.int .i64 d.ty.lv.num,.slice P.pt.A d.ty.lv.kids.length P.pt.c,.slice P.pt.B d.ty.ls.length P.pt.d,.slice P.pt.K d.ty.kids.length P.pt.e,.int .i64 d.val.kind,.int .i64 d.val.num,.string d.val.name,.int .i64 d.val.lv.kind,.int .i64 d.val.lv.num,.slice P.pv.A d.val.lv.kids.length P.pv.c,.slice P.pv.B d.val.ls.length P.pv.d,.slice P.pv.K d.val.kids.length P.pv.e,.int .i64 d.params,.slice P.C d.cs.length P.e] rfl rfl 30 #[.int .i64 0,.string ⟨#[]⟩,.int .i64 0,.int .i64 0,.int .i64 0,.string ⟨#[]⟩,.int .i64 0,.int .i64 0,.slice none 0 0,.slice none 0 0,.slice none 0 0,.int .i64 0,.int .i64 0,.string ⟨#[]⟩,.int .i64 0,.int .i64 0,.slice none 0 0,.slice none 0 0,.slice none 0 0,.int .i64 0,.slice none 0 0] (blk_new _ _) (by kernel_rfl) rfl (all_one (l:=[.int .i64 d.kind,.string d.nm,.int .i64 d.vars,.int .i64 d.ty.kind,.int .i64 d.ty.num,.string d.ty.name,.int .i64 d.ty.lv.kind,.int .i64 d.ty.lv.num,.slice P.pt.A d.ty.lv.kids.length P.pt.c,.slice P.pt.B d.ty.ls.length P.pt.d,.slice P.pt.K d.ty.kids.length P.pt.e,.int .i64 d.val.kind,.int .i64 d.val.num,.string d.val.name,.int .i64 d.val.lv.kind,.int .i64 d.val.lv.num,.slice P.pv.A d.val.lv.kids.length P.pv.c,.slice P.pv.B d.val.ls.length P.pv.d,.slice P.pv.K d.val.kids.length P.pv.e,.int .i64 d.params,.slice P.C d.cs.length P.e]) rfl) ?_))
 have hbx:=dc_boxed w2 P d
 have HX3:=Ak (blk_below HX2.out hbx.2)
 have HY3:=Ak (blk_below HY2.out hbx.2)
 have HG3:=Ak hbx.1
 have HB3:=Ak (below_then HB2.out HB2.out.size hbx.2)
 have HM3:=Ak (HMEM.out.same fun k _ hk=>hbx.2.block k hk)
 obtain ⟨gx,hgx⟩:∃ gx,gx=w2.heap.size:=⟨_,rfl⟩
 obtain ⟨W3,hW3⟩:∃ W3,W3=(w2.alloc (.cells #[.int .i64 0,.string ⟨#[]⟩,.int .i64 0,.int .i64 0,.int .i64 0,.string ⟨#[]⟩,.int .i64 0,.int .i64 0,.slice none 0 0,.slice none 0 0,.slice none 0 0,.int .i64 0,.int .i64 0,.string ⟨#[]⟩,.int .i64 0,.int .i64 0,.slice none 0 0,.slice none 0 0,.slice none 0 0,.int .i64 0,.slice none 0 0] 30 (0,0))).setRow w2.heap.size #[.int .i64 d.kind,.string d.nm,.int .i64 d.vars,.int .i64 d.ty.kind,.int .i64 d.ty.num,.string d.ty.name,.int .i64 d.ty.lv.kind,.int .i64 d.ty.lv.num,.slice P.pt.A d.ty.lv.kids.length P.pt.c,.slice P.pt.B d.ty.ls.length P.pt.d,.slice P.pt.K d.ty.kids.length P.pt.e,.int .i64 d.val.kind,.int .i64 d.val.num,.string d.val.name,.int .i64 d.val.lv.kind,.int .i64 d.val.lv.num,.slice P.pv.A d.val.lv.kids.length P.pv.c,.slice P.pv.B d.val.ls.length P.pv.d,.slice P.pv.K d.val.kids.length P.pv.e,.int .i64 d.params,.slice P.C d.cs.length P.e]:=⟨_,rfl⟩
 replace HX3:Aside0 (W3.heap[w.heap.size]?=some dzO):=by rw [hW3];exact HX3
 replace HY3:Aside0 (W3.heap[w.heap.size+1]?=some dzO):=by rw [hW3];exact HY3
 replace HG3:Aside0 (W3.heap[w2.heap.size]?=some (dcO P d)):=by rw [hW3];exact HG3
 replace HB3:Aside0 (Below w.heap.size w W3):=by rw [hW3];exact HB3
 replace HM3:Aside0 (DcS W3 (fun b=>W1.heap.size≤b) P d):=by rw [hW3];exact HM3
 rw [← hW3]
 rw [← hgx] at HG3 ⊢
 clear hgx hW3 hbx
 cases hR:dcR xs with
 | error k =>
  have htk:=HTK.out
  rw [hR] at htk
  obtain ⟨rfl,hne⟩:=htk
  have hne':(er != 0)=true:=by simp [hne]
  have HNE:=Ak hne
  have HRE:=Ak hR
  clear hR hne HTK
  go_wp2_with (first | (refine wpList_load_row rfl 30 _ rfl (w.heap.size+1) rfl 30 _ (0,0) _ HY3.out Try.underlying30 rfl (by kernel_rfl) ?_) | (refine wpList_store_row rfl 30 _ _ rfl (w.heap.size) #[.int .i64 0,.string ⟨#[]⟩,.int .i64 0,.int .i64 0,.int .i64 0,.string ⟨#[]⟩,.int .i64 0,.int .i64 0,.slice none 0 0,.slice none 0 0,.slice none 0 0,.int .i64 0,.int .i64 0,.string ⟨#[]⟩,.int .i64 0,.int .i64 0,.slice none 0 0,.slice none 0 0,.slice none 0 0,.int .i64 0,.slice none 0 0] rfl rfl 30 #[.int .i64 0,.string ⟨#[]⟩,.int .i64 0,.int .i64 0,.int .i64 0,.string ⟨#[]⟩,.int .i64 0,.int .i64 0,.slice none 0 0,.slice none 0 0,.slice none 0 0,.int .i64 0,.int .i64 0,.string ⟨#[]⟩,.int .i64 0,.int .i64 0,.slice none 0 0,.slice none 0 0,.slice none 0 0,.int .i64 0,.slice none 0 0] HX3.out (by kernel_rfl) rfl dz_one ?_))
  refine bodyPost_ret (results_ct rfl _ _ w.heap.size 30 #[.int .i64 0,.string ⟨#[]⟩,.int .i64 0,.int .i64 0,.int .i64 0,.string ⟨#[]⟩,.int .i64 0,.int .i64 0,.slice none 0 0,.slice none 0 0,.slice none 0 0,.int .i64 0,.int .i64 0,.string ⟨#[]⟩,.int .i64 0,.int .i64 0,.slice none 0 0,.slice none 0 0,.slice none 0 0,.int .i64 0,.slice none 0 0] (0,0) _ rfl (setRow_heap W3 w.heap.size _ _ _ _ HX3.out) Try.underlying30 rfl (by kernel_rfl)) rfl ?_
  exact ⟨pl00,dz,er,rfl,dz_in _ _,Chg.trans_below HB3.out (chg_setRow _ _ _) (fun k e=>by omega) HB3.out.size,by rw [HRE.out];exact ⟨rfl,HNE.out⟩⟩
 | ok y =>
  obtain ⟨d',r⟩:=y
  have htk:=HTK.out
  rw [hR] at htk
  obtain ⟨rfl,rfl,u,rfl,hu1,hu2,rfl⟩:=htk
  rw [HXN.out] at hu2
  by_cases hu:u=n
  ·have hu':((u:Int) != (n:Int))=false:=by simp [hu]
   have HRE:=Ak (endR_ok hR (by rw [HXN.out];exact hu))
   clear hR hu HTK
   go_wp2_with (first | (refine wpList_load_row rfl 30 _ rfl (gx) rfl 30 _ (0,0) _ HG3.out Try.underlying30 rfl (by kernel_rfl) ?_) | (refine wpList_store_row rfl 30 _ _ rfl (w.heap.size) #[.int .i64 d.kind,.string d.nm,.int .i64 d.vars,.int .i64 d.ty.kind,.int .i64 d.ty.num,.string d.ty.name,.int .i64 d.ty.lv.kind,.int .i64 d.ty.lv.num,.slice P.pt.A d.ty.lv.kids.length P.pt.c,.slice P.pt.B d.ty.ls.length P.pt.d,.slice P.pt.K d.ty.kids.length P.pt.e,.int .i64 d.val.kind,.int .i64 d.val.num,.string d.val.name,.int .i64 d.val.lv.kind,.int .i64 d.val.lv.num,.slice P.pv.A d.val.lv.kids.length P.pv.c,.slice P.pv.B d.val.ls.length P.pv.d,.slice P.pv.K d.val.kids.length P.pv.e,.int .i64 d.params,.slice P.C d.cs.length P.e] rfl rfl 30 #[.int .i64 0,.string ⟨#[]⟩,.int .i64 0,.int .i64 0,.int .i64 0,.string ⟨#[]⟩,.int .i64 0,.int .i64 0,.slice none 0 0,.slice none 0 0,.slice none 0 0,.int .i64 0,.int .i64 0,.string ⟨#[]⟩,.int .i64 0,.int .i64 0,.slice none 0 0,.slice none 0 0,.slice none 0 0,.int .i64 0,.slice none 0 0] HX3.out (by kernel_rfl) rfl (dc_one P d) ?_))
   refine bodyPost_ret (results_ct rfl _ _ w.heap.size 30 #[.int .i64 d.kind,.string d.nm,.int .i64 d.vars,.int .i64 d.ty.kind,.int .i64 d.ty.num,.string d.ty.name,.int .i64 d.ty.lv.kind,.int .i64 d.ty.lv.num,.slice P.pt.A d.ty.lv.kids.length P.pt.c,.slice P.pt.B d.ty.ls.length P.pt.d,.slice P.pt.K d.ty.kids.length P.pt.e,.int .i64 d.val.kind,.int .i64 d.val.num,.string d.val.name,.int .i64 d.val.lv.kind,.int .i64 d.val.lv.num,.slice P.pv.A d.val.lv.kids.length P.pv.c,.slice P.pv.B d.val.ls.length P.pv.d,.slice P.pv.K d.val.kids.length P.pv.e,.int .i64 d.params,.slice P.C d.cs.length P.e] (0,0) _ rfl (setRow_heap W3 w.heap.size _ _ _ _ HX3.out) Try.underlying30 rfl (by kernel_rfl)) rfl ?_
   have hz1:=HZ1.out
   exact ⟨P,d,0,rfl,(HM3.out.same fun k hk hz=>setRow_other W3 w.heap.size k _ (by omega)).mono fun k hk _=>by omega,Chg.trans_below HB3.out (chg_setRow _ _ _) (fun k e=>by omega) HB3.out.size,by rw [HRE.out];exact ⟨rfl,rfl⟩⟩
  ·have hu':((u:Int) != (n:Int))=true:=by simp;omega
   have HRE:=Ak (endR_form hR (by rw [HXN.out];omega))
   clear hR hu HTK
   go_wp2_with (first | (refine wpList_load_row rfl 30 _ rfl (w.heap.size+1) rfl 30 _ (0,0) _ HY3.out Try.underlying30 rfl (by kernel_rfl) ?_) | (refine wpList_store_row rfl 30 _ _ rfl (w.heap.size) #[.int .i64 0,.string ⟨#[]⟩,.int .i64 0,.int .i64 0,.int .i64 0,.string ⟨#[]⟩,.int .i64 0,.int .i64 0,.slice none 0 0,.slice none 0 0,.slice none 0 0,.int .i64 0,.int .i64 0,.string ⟨#[]⟩,.int .i64 0,.int .i64 0,.slice none 0 0,.slice none 0 0,.slice none 0 0,.int .i64 0,.slice none 0 0] rfl rfl 30 #[.int .i64 0,.string ⟨#[]⟩,.int .i64 0,.int .i64 0,.int .i64 0,.string ⟨#[]⟩,.int .i64 0,.int .i64 0,.slice none 0 0,.slice none 0 0,.slice none 0 0,.int .i64 0,.int .i64 0,.string ⟨#[]⟩,.int .i64 0,.int .i64 0,.slice none 0 0,.slice none 0 0,.slice none 0 0,.int .i64 0,.slice none 0 0] HX3.out (by kernel_rfl) rfl dz_one ?_))
   refine bodyPost_ret (results_ct rfl _ _ w.heap.size 30 #[.int .i64 0,.string ⟨#[]⟩,.int .i64 0,.int .i64 0,.int .i64 0,.string ⟨#[]⟩,.int .i64 0,.int .i64 0,.slice none 0 0,.slice none 0 0,.slice none 0 0,.int .i64 0,.int .i64 0,.string ⟨#[]⟩,.int .i64 0,.int .i64 0,.slice none 0 0,.slice none 0 0,.slice none 0 0,.int .i64 0,.slice none 0 0] (0,0) _ rfl (setRow_heap W3 w.heap.size _ _ _ _ HX3.out) Try.underlying30 rfl (by kernel_rfl)) rfl ?_
   exact ⟨pl00,dz,4,rfl,dz_in _ _,Chg.trans_below HB3.out (chg_setRow _ _ _) (fun k e=>by omega) HB3.out.size,by rw [HRE.out];exact ⟨rfl,by decide⟩⟩
def EndZ (d:Dc) (er:Int):Except Int Dc→Prop
 | .ok y=>d=y∧er=0
 | .error k=>er=k∧k≠0∧d=dz
def DecP (w:World) (R:Except Int Dc) (e:Ending) (w':World):Prop:=
 ∃ P d er,e=.returned (.tuple #[dcV P d,.int .i64 er])∧DcS w' (fun b=>w.heap.size≤b) P d∧Below w.heap.size w w'∧EndZ d er R
theorem decR_end (xs:List Int):decR xs=match endR (dcR xs) with
  | .error e=>.error e
  | .ok d=>if mayD d≠0 then .error (mayD d) else .ok d:=by
 unfold decR
 cases dcR xs with
 | error e=>rfl
 | ok y =>
  obtain ⟨d,r⟩:=y
  simp only [endR]
  by_cases h:r=[]
  ·simp only [h,ne_eq,not_true_eq_false,if_false]
  ·simp only [ne_eq,h,not_false_eq_true,if_true]
set_option maxRecDepth 100000 in
set_option maxHeartbeats 8000000 in
theorem decode_calls (A:Option Addr) (n c:Nat) (xs:List Int) (w:World) (h:Bs w w.heap.size A n c xs) :
  Calls Try.prog 21 #[.slice A n c] w (DecP w (decR xs)):=by
 have hb1:=below_alloc (Below.refl w.heap.size w) dzO
 have HX1:=Ak (blk_new w dzO)
 have HS:=Ak ((h.chg (S:=fun _=>False) (Nat.le_refl _) (fun _ h=>h.elim) (Chg.of_below hb1)).mono hb1.size)
 have HB1:=Ak hb1
 have HZ1:=Ak (show (w.alloc dzO).heap.size=w.heap.size+1 by simp)
 clear h hb1
 go_enter Try.func21,Try.ntmps21
 go_upto_region 1 with (fail)
 obtain ⟨W1,hW1⟩:∃ W1,W1=w.alloc dzO:=⟨_,rfl⟩
 rw [← hW1] at HS HX1 HB1 HZ1 ⊢
 clear hW1
 go_upto_region 2 with (first
  | (go_at_call 42;go_must (refine (wholeD_calls A n c xs _ HS.out).mono ?_;rintro e w2 ⟨P,d,er,rfl,hmem,hb,htk⟩;have HX2:=Ak (blk_below HX1.out hb);have HMEM:=Ak hmem;have HB2:=Ak (below_then HB1.out HB1.out.size hb);have HTK:=Ak htk;clear hmem hb htk;simp only [dcV]))
  | (refine wpList_store_row rfl 30 _ _ rfl (w2.heap.size) #[.int .i64 d.kind,.string d.nm,.int .i64 d.vars,.int .i64 d.ty.kind,.int .i64 d.ty.num,.string d.ty.name,.int .i64 d.ty.lv.kind,.int .i64 d.ty.lv.num,.slice P.pt.A d.ty.lv.kids.length P.pt.c,.slice P.pt.B d.ty.ls.length P.pt.d,.slice P.pt.K d.ty.kids.length P.pt.e,.int .i64 d.val.kind,.int .i64 d.val.num,.string d.val.name,.int .i64 d.val.lv.kind,.int .i64 d.val.lv.num,.slice P.pv.A d.val.lv.kids.length P.pv.c,.slice P.pv.B d.val.ls.length P.pv.d,.slice P.pv.K d.val.kids.length P.pv.e,.int .i64 d.params,.slice P.C d.cs.length P.e] rfl rfl 30 #[.int .i64 0,.string ⟨#[]⟩,.int .i64 0,.int .i64 0,.int .i64 0,.string ⟨#[]⟩,.int .i64 0,.int .i64 0,.slice none 0 0,.slice none 0 0,.slice none 0 0,.int .i64 0,.int .i64 0,.string ⟨#[]⟩,.int .i64 0,.int .i64 0,.slice none 0 0,.slice none 0 0,.slice none 0 0,.int .i64 0,.slice none 0 0] (blk_new _ _) (by kernel_rfl) rfl (all_one (l:=[.int .i64 d.kind,.string d.nm,.int .i64 d.vars,.int .i64 d.ty.kind,.int .i64 d.ty.num,.string d.ty.name,.int .i64 d.ty.lv.kind,.int .i64 d.ty.lv.num,.slice P.pt.A d.ty.lv.kids.length P.pt.c,.slice P.pt.B d.ty.ls.length P.pt.d,.slice P.pt.K d.ty.kids.length P.pt.e,.int .i64 d.val.kind,.int .i64 d.val.num,.string d.val.name,.int .i64 d.val.lv.kind,.int .i64 d.val.lv.num,.slice P.pv.A d.val.lv.kids.length P.pv.c,.slice P.pv.B d.val.ls.length P.pv.d,.slice P.pv.K d.val.kids.length P.pv.e,.int .i64 d.params,.slice P.C d.cs.length P.e]) rfl) ?_))
 have hbx:=dc_boxed w2 P d
 have HX3:=Ak (blk_below HX2.out hbx.2)
 have HG3:=Ak hbx.1
 have HB3:=Ak (below_then HB2.out HB2.out.size hbx.2)
 have HM3:=Ak (HMEM.out.same fun k _ hk=>hbx.2.block k hk)
 obtain ⟨gx,hgx⟩:∃ gx,gx=w2.heap.size:=⟨_,rfl⟩
 obtain ⟨W3,hW3⟩:∃ W3,W3=(w2.alloc (.cells #[.int .i64 0,.string ⟨#[]⟩,.int .i64 0,.int .i64 0,.int .i64 0,.string ⟨#[]⟩,.int .i64 0,.int .i64 0,.slice none 0 0,.slice none 0 0,.slice none 0 0,.int .i64 0,.int .i64 0,.string ⟨#[]⟩,.int .i64 0,.int .i64 0,.slice none 0 0,.slice none 0 0,.slice none 0 0,.int .i64 0,.slice none 0 0] 30 (0,0))).setRow w2.heap.size #[.int .i64 d.kind,.string d.nm,.int .i64 d.vars,.int .i64 d.ty.kind,.int .i64 d.ty.num,.string d.ty.name,.int .i64 d.ty.lv.kind,.int .i64 d.ty.lv.num,.slice P.pt.A d.ty.lv.kids.length P.pt.c,.slice P.pt.B d.ty.ls.length P.pt.d,.slice P.pt.K d.ty.kids.length P.pt.e,.int .i64 d.val.kind,.int .i64 d.val.num,.string d.val.name,.int .i64 d.val.lv.kind,.int .i64 d.val.lv.num,.slice P.pv.A d.val.lv.kids.length P.pv.c,.slice P.pv.B d.val.ls.length P.pv.d,.slice P.pv.K d.val.kids.length P.pv.e,.int .i64 d.params,.slice P.C d.cs.length P.e]:=⟨_,rfl⟩
 replace HX3:Aside0 (W3.heap[w.heap.size]?=some dzO):=by rw [hW3];exact HX3
 replace HG3:Aside0 (W3.heap[w2.heap.size]?=some (dcO P d)):=by rw [hW3];exact HG3
 replace HB3:Aside0 (Below w.heap.size w W3):=by rw [hW3];exact HB3
 replace HM3:Aside0 (DcS W3 (fun b=>W1.heap.size≤b) P d):=by rw [hW3];exact HM3
 rw [← hW3]
 rw [← hgx] at HG3 ⊢
 clear hgx hW3 hbx
 have HE:=Ak (decR_end xs)
 cases hR:endR (dcR xs) with
 | error k =>
  have htk:=HTK.out
  rw [hR] at htk
  obtain ⟨rfl,hne⟩:=htk
  have hne':(er != 0)=true:=by simp [hne]
  have hne2:(er == 0)=false:=by simp [hne]
  have HNE:=Ak hne
  have HRE:=Ak (show decR xs=.error er by rw [HE.out,hR])
  clear hR hne HTK
  go_wp2_with (refine wpList_store_row rfl 30 _ _ rfl (w.heap.size) #[.int .i64 0,.string ⟨#[]⟩,.int .i64 0,.int .i64 0,.int .i64 0,.string ⟨#[]⟩,.int .i64 0,.int .i64 0,.slice none 0 0,.slice none 0 0,.slice none 0 0,.int .i64 0,.int .i64 0,.string ⟨#[]⟩,.int .i64 0,.int .i64 0,.slice none 0 0,.slice none 0 0,.slice none 0 0,.int .i64 0,.slice none 0 0] rfl rfl 30 #[.int .i64 0,.string ⟨#[]⟩,.int .i64 0,.int .i64 0,.int .i64 0,.string ⟨#[]⟩,.int .i64 0,.int .i64 0,.slice none 0 0,.slice none 0 0,.slice none 0 0,.int .i64 0,.int .i64 0,.string ⟨#[]⟩,.int .i64 0,.int .i64 0,.slice none 0 0,.slice none 0 0,.slice none 0 0,.int .i64 0,.slice none 0 0] HX3.out (by kernel_rfl) rfl dz_one ?_)
  refine bodyPost_ret (results_ct rfl _ _ w.heap.size 30 #[.int .i64 0,.string ⟨#[]⟩,.int .i64 0,.int .i64 0,.int .i64 0,.string ⟨#[]⟩,.int .i64 0,.int .i64 0,.slice none 0 0,.slice none 0 0,.slice none 0 0,.int .i64 0,.int .i64 0,.string ⟨#[]⟩,.int .i64 0,.int .i64 0,.slice none 0 0,.slice none 0 0,.slice none 0 0,.int .i64 0,.slice none 0 0] (0,0) _ rfl (setRow_heap W3 w.heap.size _ _ _ _ HX3.out) Try.underlying30 rfl (by kernel_rfl)) rfl ?_
  exact ⟨pl00,dz,er,rfl,dz_in _ _,Chg.trans_below HB3.out (chg_setRow _ _ _) (fun k e=>by omega) HB3.out.size,by rw [HRE.out];exact ⟨rfl,HNE.out,rfl⟩⟩
 | ok d' =>
  have htk:=HTK.out
  rw [hR] at htk
  obtain ⟨rfl,rfl⟩:=htk
  have HRE:=Ak (show decR xs=if mayD d≠0 then .error (mayD d) else .ok d by rw [HE.out,hR])
  obtain ⟨em,hem⟩:∃ em,em=mayD d:=⟨_,rfl⟩
  rw [← hem] at HRE
  have HEM:=Ak hem
  clear hR HTK hem
  by_cases hm:em=0
  ·subst hm
   have HRF:=Ak (show decR xs=.ok d by rw [HRE.out,if_neg (fun h=>h rfl)])
   go_wp2_with (first
    | (refine wpList_load_row rfl 30 _ rfl (gx) rfl 30 _ (0,0) _ HG3.out Try.underlying30 rfl (by kernel_rfl) ?_)
    | (go_at_call 13;go_must (refine (mayd_calls d P _ HM3.out.all).mono ?_;rintro e w4 ⟨rfl,hb⟩;rw [← HEM.out];have HX4:=Ak (blk_below HX3.out hb);have HG4:=Ak (blk_below HG3.out hb);have HM4:=Ak (HM3.out.same fun k _ hk=>hb.block k hk);have HB4:=Ak (below_then HB3.out HB3.out.size hb);clear hb))
    | (refine wpList_load_row rfl 30 _ rfl (gx) rfl 30 _ (0,0) _ HG4.out Try.underlying30 rfl (by kernel_rfl) ?_)
    | (refine wpList_store_row rfl 30 _ _ rfl (w.heap.size) #[.int .i64 d.kind,.string d.nm,.int .i64 d.vars,.int .i64 d.ty.kind,.int .i64 d.ty.num,.string d.ty.name,.int .i64 d.ty.lv.kind,.int .i64 d.ty.lv.num,.slice P.pt.A d.ty.lv.kids.length P.pt.c,.slice P.pt.B d.ty.ls.length P.pt.d,.slice P.pt.K d.ty.kids.length P.pt.e,.int .i64 d.val.kind,.int .i64 d.val.num,.string d.val.name,.int .i64 d.val.lv.kind,.int .i64 d.val.lv.num,.slice P.pv.A d.val.lv.kids.length P.pv.c,.slice P.pv.B d.val.ls.length P.pv.d,.slice P.pv.K d.val.kids.length P.pv.e,.int .i64 d.params,.slice P.C d.cs.length P.e] rfl rfl 30 #[.int .i64 0,.string ⟨#[]⟩,.int .i64 0,.int .i64 0,.int .i64 0,.string ⟨#[]⟩,.int .i64 0,.int .i64 0,.slice none 0 0,.slice none 0 0,.slice none 0 0,.int .i64 0,.int .i64 0,.string ⟨#[]⟩,.int .i64 0,.int .i64 0,.slice none 0 0,.slice none 0 0,.slice none 0 0,.int .i64 0,.slice none 0 0] HX4.out (by kernel_rfl) rfl (dc_one P d) ?_))
   refine bodyPost_ret (results_ct rfl _ _ w.heap.size 30 #[.int .i64 d.kind,.string d.nm,.int .i64 d.vars,.int .i64 d.ty.kind,.int .i64 d.ty.num,.string d.ty.name,.int .i64 d.ty.lv.kind,.int .i64 d.ty.lv.num,.slice P.pt.A d.ty.lv.kids.length P.pt.c,.slice P.pt.B d.ty.ls.length P.pt.d,.slice P.pt.K d.ty.kids.length P.pt.e,.int .i64 d.val.kind,.int .i64 d.val.num,.string d.val.name,.int .i64 d.val.lv.kind,.int .i64 d.val.lv.num,.slice P.pv.A d.val.lv.kids.length P.pv.c,.slice P.pv.B d.val.ls.length P.pv.d,.slice P.pv.K d.val.kids.length P.pv.e,.int .i64 d.params,.slice P.C d.cs.length P.e] (0,0) _ rfl (setRow_heap w4 w.heap.size _ _ _ _ HX4.out) Try.underlying30 rfl (by kernel_rfl)) rfl ?_
   have hz1:=HZ1.out
   exact ⟨P,d,0,rfl,(HM4.out.same fun k hk hz=>setRow_other w4 w.heap.size k _ (by omega)).mono fun k hk _=>by omega,Chg.trans_below HB4.out (chg_setRow _ _ _) (fun k e=>by omega) HB4.out.size,by rw [HRF.out];exact ⟨rfl,rfl⟩⟩
  ·have HRF:=Ak (show decR xs=.error em by rw [HRE.out,if_pos hm])
   have hne':(em != 0)=true:=by simp [hm]
   have HNE:=Ak hm
   clear hm
   go_wp2_with (first
    | (refine wpList_load_row rfl 30 _ rfl (gx) rfl 30 _ (0,0) _ HG3.out Try.underlying30 rfl (by kernel_rfl) ?_)
    | (go_at_call 13;go_must (refine (mayd_calls d P _ HM3.out.all).mono ?_;rintro e w4 ⟨rfl,hb⟩;rw [← HEM.out];have HX4:=Ak (blk_below HX3.out hb);have HB4:=Ak (below_then HB3.out HB3.out.size hb);clear hb))
    | (refine wpList_store_row rfl 30 _ _ rfl (w.heap.size) #[.int .i64 0,.string ⟨#[]⟩,.int .i64 0,.int .i64 0,.int .i64 0,.string ⟨#[]⟩,.int .i64 0,.int .i64 0,.slice none 0 0,.slice none 0 0,.slice none 0 0,.int .i64 0,.int .i64 0,.string ⟨#[]⟩,.int .i64 0,.int .i64 0,.slice none 0 0,.slice none 0 0,.slice none 0 0,.int .i64 0,.slice none 0 0] rfl rfl 30 #[.int .i64 0,.string ⟨#[]⟩,.int .i64 0,.int .i64 0,.int .i64 0,.string ⟨#[]⟩,.int .i64 0,.int .i64 0,.slice none 0 0,.slice none 0 0,.slice none 0 0,.int .i64 0,.int .i64 0,.string ⟨#[]⟩,.int .i64 0,.int .i64 0,.slice none 0 0,.slice none 0 0,.slice none 0 0,.int .i64 0,.slice none 0 0] HX4.out (by kernel_rfl) rfl dz_one ?_))
   refine bodyPost_ret (results_ct rfl _ _ w.heap.size 30 #[.int .i64 0,.string ⟨#[]⟩,.int .i64 0,.int .i64 0,.int .i64 0,.string ⟨#[]⟩,.int .i64 0,.int .i64 0,.slice none 0 0,.slice none 0 0,.slice none 0 0,.int .i64 0,.int .i64 0,.string ⟨#[]⟩,.int .i64 0,.int .i64 0,.slice none 0 0,.slice none 0 0,.slice none 0 0,.int .i64 0,.slice none 0 0] (0,0) _ rfl (setRow_heap w4 w.heap.size _ _ _ _ HX4.out) Try.underlying30 rfl (by kernel_rfl)) rfl ?_
   exact ⟨pl00,dz,em,rfl,dz_in _ _,Chg.trans_below HB4.out (chg_setRow _ _ _) (fun k e=>by omega) HB4.out.size,by rw [HRF.out];exact ⟨rfl,HNE.out,rfl⟩⟩
end Go.Proofs.Ytcgkeolgflphiaa

namespace Go.Proofs.Ytcgkeolgflphiaa
open Go.RowKit Go.Proofs.YtcgkeolgflphiaaW.PrintWords Go.RegionInvYtcgkeolgflphiaa

abbrev rrB (A:Option Addr) (n c:Nat) (e:Int):Obj:=.cells #[.slice A n c,.int .i64 e] 75 (0,0)
def RrOk (w:World) (g:Nat) (xs:List Int):Prop:=∃ A n c,w.heap[g]?=some (rrB A n c 0)∧Bs w g A n c xs
def RrBad (w:World) (g:Nat) (e:Int):Prop:=∃ A n c,w.heap[g]?=some (rrB A n c e)
def RR (W:World) (g:Nat):Except Int (List Int)→Prop
 | .ok xs=>RrOk W g xs
 | .error e=>e≠0∧RrBad W g e
theorem RrOk.lt {w:World} {g:Nat} {xs:List Int} (h:RrOk w g xs):g<w.heap.size:=by obtain ⟨_,_,_,h,_⟩:=h;exact blk_lt h
theorem RrBad.lt {w:World} {g:Nat} {e:Int} (h:RrBad w g e):g<w.heap.size:=by obtain ⟨_,_,_,h⟩:=h;exact blk_lt h
theorem RrOk.chg {w w':World} {g:Nat} {xs:List Int} {S:Nat→Prop} (h:RrOk w g xs) (hS:∀ k,S k→g<k) (hc:Chg S w w'):RrOk w' g xs:=by
 obtain ⟨A,n,c,hb,hs⟩:=h
 exact ⟨A,n,c,(hc.block g (blk_lt hb) (fun hk=>absurd (hS g hk) (Nat.lt_irrefl g))).trans hb,hs.chg (Nat.le_of_lt (blk_lt hb)) (fun k hk=>Nat.le_of_lt (hS k hk)) hc⟩
theorem RrBad.chg {w w':World} {g:Nat} {e:Int} {S:Nat→Prop} (h:RrBad w g e) (hS:∀ k,S k→g<k) (hc:Chg S w w'):RrBad w' g e:=by
 obtain ⟨A,n,c,hb⟩:=h
 exact ⟨A,n,c,(hc.block g (blk_lt hb) (fun hk=>absurd (hS g hk) (Nat.lt_irrefl g))).trans hb⟩
theorem RR.chg {W W':World} {g:Nat} {s:Except Int (List Int)} {S:Nat→Prop} (h:RR W g s) (hS:∀ k,S k→g<k) (hc:Chg S W W'):RR W' g s:=by
 cases s with
 | error e=>exact ⟨h.1,RrBad.chg h.2 hS hc⟩
 | ok x=>exact RrOk.chg h hS hc
theorem RR.below {W W':World} {g:Nat} {s:Except Int (List Int)} (h:RR W g s) (hb:Below W.heap.size W W'):RR W' g s:=h.chg (S:=fun _=>False) (fun _ h=>h.elim) (Chg.of_below hb)
theorem RR.lt {W:World} {g:Nat} {s:Except Int (List Int)} (h:RR W g s):g<W.heap.size:=by
 cases s with
 | error e=>exact h.2.lt
 | ok x=>exact RrOk.lt h
theorem row2t {w:World} {g:Nat} {a b:Value} {t:TypeId} (h:w.heap[g]?=some (.cells #[a,b] t (0,0))):w.cell? ⟨g,0,none⟩=some a∧w.cell? ⟨g,1,none⟩=some b∧w.frozen? ⟨g,0,none⟩=false∧w.frozen? ⟨g,1,none⟩=false:=by
 refine ⟨?_,?_,blk_frozen h 0,blk_frozen h 1⟩ <;> (rw [cell_of_row _ _ _ _ _ _ h];rfl)
theorem rr2_0 {w:World} {g:Nat} {a b x:Value} {t:TypeId} (h:w.heap[g]?=some (.cells #[a,b] t (0,0))):(w.setCell ⟨g,0,none⟩ x).heap[g]?=some (.cells #[x,b] t (0,0)):=blk_put h 0 x rfl
theorem rr2_1 {w:World} {g:Nat} {a b x:Value} {t:TypeId} (h:w.heap[g]?=some (.cells #[a,b] t (0,0))):(w.setCell ⟨g,1,none⟩ x).heap[g]?=some (.cells #[a,x] t (0,0)):=blk_put h 1 x rfl
def failS (k:Int):Except Int (List Int)→Except Int (List Int)
 | .ok _=>.error k
 | .error e=>.error e
def byteS:Except Int (List Int)→Int × Except Int (List Int)
 | .error e=>(0,.error e)
 | .ok []=>(0,.error 3)
 | .ok (x :: r)=>(x,.ok r)
def endS:Except Int (List Int)→Except Int (List Int)
 | .error e=>.error e
 | .ok []=>.ok []
 | .ok (_ :: _)=>.error 4
def rNumR (most over:Int) (xs:List Int):Except Int (Int × List Int):=
 if (takeN xs).2.2≠0 then .error (takeN xs).2.2 else if most<(takeN xs).1 then .error over else .ok ((takeN xs).1,xs.drop (takeN xs).2.1.toNat)
theorem rr_err {w:World} {g n c:Nat} {A:Option Addr} {er k:Int} (hg:w.heap[g]?=some (rrB A n c er)) (hk:k≠0):RR (w.setCell ⟨g,1,none⟩ (.int .i64 k)) g (.error k):=⟨hk,A,n,c,rr2_1 hg⟩
theorem rr_ok {w:World} {g n c n' c':Nat} {A A':Option Addr} {r:List Int} (hg:w.heap[g]?=some (rrB A n c 0)) (hs:Bs w g A' n' c' r):RR (w.setCell ⟨g,0,none⟩ (.slice A' n' c')) g (.ok r):=
 ⟨A',n',c',rr2_0 hg,hs.chg (Nat.le_of_lt (blk_lt hg)) (fun k e=>Nat.le_of_eq e.symm) (chg_set _ _ _ _)⟩
theorem rfail_any (g:Nat) (s:Except Int (List Int)) (k:Int) (w:World) (h:RR w g s) (hk:k≠0) :
  Calls Try.prog 70 #[.pointer (some ⟨g,0,none⟩),.int .i64 k] w fun e w'=>e=.returned (.tuple #[])∧Chg (fun k=>k=g) w w'∧RR w' g (failS k s):=by
 cases s with
 | error er =>
  obtain ⟨hne,A,n,c,hg⟩:=h
  obtain ⟨c0,c1,z0,z1⟩:=row2t hg
  have he:(er == 0)=false:=by simp [hne]
  have HG:=Ak hg
  have HNE:=Ak hne
  clear hg hne hk
  go_enter Try.func70,Try.ntmps70
  go_wp2
  go_end0
  exact ⟨rfl,Chg.refl _ _,HNE.out,A,n,c,HG.out⟩
 | ok xs =>
  obtain ⟨A,n,c,hg,hs⟩:=h
  obtain ⟨c0,c1,z0,z1⟩:=row2t hg
  have HG:=Ak hg
  have HK:=Ak hk
  clear hg hs hk
  go_enter Try.func70,Try.ntmps70
  go_wp2
  go_end0
  exact ⟨rfl,chg_set _ _ _ _,rr_err HG.out HK.out⟩
theorem rend_any (g:Nat) (s:Except Int (List Int)) (w:World) (h:RR w g s) :
  Calls Try.prog 45 #[.pointer (some ⟨g,0,none⟩)] w fun e w'=>e=.returned (.tuple #[])∧Chg (fun k=>k=g) w w'∧RR w' g (endS s):=by
 cases s with
 | error er =>
  obtain ⟨hne,A,n,c,hg⟩:=h
  obtain ⟨c0,c1,z0,z1⟩:=row2t hg
  have he:(er == 0)=false:=by simp [hne]
  have HG:=Ak hg
  have HNE:=Ak hne
  clear hg hne
  go_enter Try.func45,Try.ntmps45
  go_wp2
  go_end0
  exact ⟨rfl,Chg.refl _ _,HNE.out,A,n,c,HG.out⟩
 | ok xs =>
  obtain ⟨A,n,c,hg,hs⟩:=h
  obtain ⟨c0,c1,z0,z1⟩:=row2t hg
  have HG:=Ak hg
  have HS:=Ak hs
  have hn:=hs.reads.1
  have hlen:=hs.len
  clear hg hs
  cases xs with
  | nil =>
   obtain rfl:n=0:=hn.symm
   clear hn
   go_enter Try.func45,Try.ntmps45
   go_wp2
   go_end0
   exact ⟨rfl,Chg.refl _ _,A,0,c,HG.out,HS.out⟩
  | cons x r =>
   have hn0:0<n:=by simp only [List.length_cons] at hn;omega
   clear hn
   go_enter Try.func45,Try.ntmps45
   go_wp2
   go_end0
   exact ⟨rfl,chg_set _ _ _ _,rr_err HG.out (by decide)⟩
def BytePost (w:World) (g:Nat) (s:Except Int (List Int)) (e:Ending) (w':World):Prop:=e=.returned (.int .u8 (byteS s).1)∧Chg (fun k=>k=g) w w'∧RR w' g (byteS s).2
theorem rbyte_any (g:Nat) (s:Except Int (List Int)) (w:World) (h:RR w g s) :
  Calls Try.prog 69 #[.pointer (some ⟨g,0,none⟩)] w (BytePost w g s):=by
 cases s with
 | error er =>
  obtain ⟨hne,A,n,c,hg⟩:=h
  obtain ⟨c0,c1,z0,z1⟩:=row2t hg
  have he:(er != 0)=true:=by simp [hne]
  have HG:=Ak hg
  have HNE:=Ak hne
  clear hg hne
  go_enter Try.func69,Try.ntmps69
  go_wp2
  go_ret
  exact ⟨rfl,Chg.refl _ _,HNE.out,A,n,c,HG.out⟩
 | ok xs =>
  obtain ⟨A,n,c,hg,hs⟩:=h
  obtain ⟨c0,c1,z0,z1⟩:=row2t hg
  have HG:=Ak hg
  have HS:=Ak hs
  have hn:=hs.reads.1
  cases xs with
  | nil =>
   obtain rfl:n=0:=hn.symm
   clear hn hg hs
   go_enter Try.func69,Try.ntmps69
   go_wp2
   go_ret
   exact ⟨rfl,chg_set _ _ _ _,rr_err HG.out (by decide)⟩
  | cons x r =>
   obtain rfl:n=r.length+1:=by simpa using hn.symm
   obtain ⟨ad,rfl,hc⟩:=hs.reads.at_ 0 (Int.le_refl 0) (by omega)
   have hb:=hs.bytes x (by simp)
   have hc':w.cell? ad=some (.int .u8 x):=by
    have h0:ad.add 0=ad:=by simp [Addr.add]
    rw [← h0]
    exact hc
   have hn0:((r.length:Int)+1 == 0)=false:=by
    simp only [beq_eq_false_iff_ne];omega
   obtain ⟨A',hcut,hcs⟩:=cut_old (A:=some ad) (n:=r.length+1) (c:=c) 1 (by omega)
   have HCS:=Ak hcs
   rw [show ((1:Nat):Int)=1 from rfl] at hcut
   have hlen:=hs.len
   clear hg hs hn hcs hc
   go_enter Try.func69,Try.ntmps69
   go_wp2
   go_ret
   exact ⟨rfl,chg_set _ _ _ _,rr_ok HG.out (HCS.out w g (x :: r) HS.out)⟩
def RNumP (w:World) (g:Nat) (R:Except Int (Int × List Int)) (e:Ending) (w':World):Prop:=e=.returned (.int .u64 (okNum R))∧Chg (fun k=>k=g) w w'∧RR w' g (restR R)
set_option maxHeartbeats 2000000 in
theorem rNumber_any (g:Nat) (s:Except Int (List Int)) (most over:Int) (w:World) (h:RR w g s) (h0:0≤most) (h1:most≤1048576) (ho:over≠0) (ho2:-100≤over) (ho3:over≤100) :
  Calls Try.prog 50 #[.pointer (some ⟨g,0,none⟩),.int .u64 most,.int .i64 over] w (RNumP w g (nextR s (rNumR most over))):=by
 cases s with
 | error er =>
  obtain ⟨hne,A,n,c,hg⟩:=h
  obtain ⟨c0,c1,z0,z1⟩:=row2t hg
  have he:(er != 0)=true:=by simp [hne]
  have HG:=Ak hg
  have HNE:=Ak hne
  clear hg hne ho
  go_enter Try.func50,Try.ntmps50
  go_wp2
  go_ret
  exact ⟨rfl,Chg.refl _ _,HNE.out,A,n,c,HG.out⟩
 | ok xs =>
  obtain ⟨A,n,c,hg,hs⟩:=h
  obtain ⟨c0,c1,z0,z1⟩:=row2t hg
  have HG:=Ak hg
  have HS:=Ak hs
  have HO:=Ak ho
  have hn:=hs.reads.1
  have hlen:=hs.len
  show Calls _ _ _ w (RNumP w g (rNumR most over xs))
  rcases takeN_cases hs.bytes with hT | hT | ⟨k,u,hT,hk,hu1,hu2⟩
  ·have HK:=Ak (show rNumR most over xs=.error 3 by unfold rNumR;rw [hT];rfl)
   have HT:=Ak hT
   clear hg hs hn hT ho
   go_enter Try.func50,Try.ntmps50
   go_wp2_with (go_at_call 76;go_must (refine (refTake_calls A n c xs _ HS.out.reads HS.out.bytes hlen).mono ?_;rintro e w' ⟨rfl,hw⟩;obtain rfl:w=w':=hw.symm;rw [HT.out]))
   go_ret
   rw [HK.out]
   exact ⟨rfl,chg_set _ _ _ _,rr_err HG.out (by decide)⟩
  ·have HK:=Ak (show rNumR most over xs=.error 4 by unfold rNumR;rw [hT];rfl)
   have HT:=Ak hT
   clear hg hs hn hT ho
   go_enter Try.func50,Try.ntmps50
   go_wp2_with (go_at_call 76;go_must (refine (refTake_calls A n c xs _ HS.out.reads HS.out.bytes hlen).mono ?_;rintro e w' ⟨rfl,hw⟩;obtain rfl:w=w':=hw.symm;rw [HT.out]))
   go_ret
   rw [HK.out]
   exact ⟨rfl,chg_set _ _ _ _,rr_err HG.out (by decide)⟩
  ·have hu3:u≤n:=by omega
   obtain ⟨A',hcut,hcs⟩:=cut_old (A:=A) (n:=n) (c:=c) u hu3
   have HCS:=Ak (hcs w g xs hs)
   have HT:=Ak hT
   by_cases hbig:most<(k:Int)
   ·have HK:=Ak (show rNumR most over xs=.error over by unfold rNumR;rw [hT];rw [if_neg (by simp),if_pos (by omega)])
    have hb':decide (most<(k:Int))=true:=decide_eq_true hbig
    have ho':(over != 0)=true:=by simp [ho]
    clear hg hs hn hT hcut hcs ho hbig
    go_enter Try.func50,Try.ntmps50
    go_wp2_with (go_at_call 76;go_must (refine (refTake_calls A n c xs _ HS.out.reads HS.out.bytes hlen).mono ?_;rintro e w' ⟨rfl,hw⟩;obtain rfl:w=w':=hw.symm;rw [HT.out]))
    go_ret
    rw [HK.out]
    exact ⟨rfl,chg_set _ _ _ _,rr_err HG.out HO.out⟩
   ·have HK:=Ak (show rNumR most over xs=.ok ((k:Int),xs.drop u) by unfold rNumR;rw [hT];rw [if_neg (by simp),if_neg (by simp;omega)];rfl)
    have hb':decide (most<(k:Int))=false:=decide_eq_false hbig
    clear hg hs hn hT hcs ho hbig
    go_enter Try.func50,Try.ntmps50
    go_wp2_with (go_at_call 76;go_must (refine (refTake_calls A n c xs _ HS.out.reads HS.out.bytes hlen).mono ?_;rintro e w' ⟨rfl,hw⟩;obtain rfl:w=w':=hw.symm;rw [HT.out]))
    go_ret
    rw [HK.out]
    exact ⟨rfl,chg_set _ _ _ _,rr_ok HG.out HCS.out⟩
theorem num_bound {most over n:Int} {xs r:List Int} (hB:Bytes xs) (h:rNumR most over xs=.ok (n,r)):0≤n∧n≤most:=by
 unfold rNumR at h
 split at h
 ·cases h
 ·split at h
  ·cases h
  ·simp only [Except.ok.injEq,Prod.mk.injEq] at h
   obtain ⟨rfl,-⟩:=h
   refine ⟨?_,by omega⟩
   rcases takeN_cases hB with hT | hT | ⟨k,u,hT,hk,hu1,hu2⟩ <;> rw [hT]
   ·exact Int.le_refl _
   ·exact Int.le_refl _
   ·exact Int.natCast_nonneg _
theorem okNum_bound (s:Except Int (List Int)) {most over:Int} (hm:0≤most) (hB:∀ xs,s=.ok xs→Bytes xs):0≤okNum (nextR s (rNumR most over))∧okNum (nextR s (rNumR most over))≤most:=by
 cases s with
 | error e=>exact ⟨Int.le_refl _,hm⟩
 | ok xs =>
  show 0≤okNum (rNumR most over xs)∧okNum (rNumR most over xs)≤most
  cases h:rNumR most over xs with
  | error e=>exact ⟨Int.le_refl _,hm⟩
  | ok x=>exact num_bound (hB xs rfl) h
theorem RR.bytes {W:World} {g:Nat} {s:Except Int (List Int)} (h:RR W g s):∀ xs,s=.ok xs→Bytes xs:=by
 rintro xs rfl
 obtain ⟨_,_,_,_,hs⟩:=h
 exact hs.bytes
def RnumP (w:World) (g:Nat) (R:Except Int (Int × List Int)) (e:Ending) (w':World):Prop:=e=.returned (.int .i64 (okNum R))∧Chg (fun k=>k=g) w w'∧RR w' g (restR R)
theorem rnumber_any (g:Nat) (s:Except Int (List Int)) (w:World) (h:RR w g s) :
  Calls Try.prog 72 #[.pointer (some ⟨g,0,none⟩)] w (RnumP w g (nextR s numR)):=by
 have H:=Ak h
 have hb:=okNum_bound (over:=1) s (most:=1048576) (by decide) h.bytes
 have hz:=RR.lt h
 obtain ⟨kk,hkk⟩:∃ kk,kk=okNum (nextR s (rNumR 1048576 1)):=⟨_,rfl⟩
 have HKK:=Ak hkk
 rw [← hkk] at hb
 clear h hkk
 go_enter Try.func72,Try.ntmps72
 go_wp2_with (go_at_call 50;go_must (refine (rNumber_any g s 1048576 1 _ H.out (by decide) (by decide) (by decide) (by decide) (by decide)).mono ?_;rintro e w' ⟨rfl,hc,hs⟩;rw [← HKK.out];have HC:=Ak hc;have HS:=Ak hs;clear hc hs))
 go_ret
 exact ⟨by rw [HKK.out];rfl,HC.out,HS.out⟩
end Go.Proofs.Ytcgkeolgflphiaa

namespace Go.Proofs.Ytcgkeolgflphiaa
open Go.RowKit Go.Proofs.YtcgkeolgflphiaaW.PrintWords Go.RegionInvYtcgkeolgflphiaa

def bytesR (most:Int) (xs:List Int):Except Int (List Int × List Int):=
 if (takeB xs most).2.2≠0 then .error (takeB xs most).2.2 else .ok ((takeB xs most).1,xs.drop (takeB xs most).2.1.toNat)
def rowOf:Except Int (List Int × List Int)→List Int | .ok (y,_)=>y | .error _=>[]
def RBytesP (w:World) (g:Nat) (R:Except Int (List Int × List Int)) (e:Ending) (w':World):Prop:=∃ v,e=.returned v∧OwnB w' w.heap.size v (rowOf R)∧Chg (fun k=>k=g) w w'∧RR w' g (restR R)
set_option maxHeartbeats 2000000 in
theorem rBytes_calls (g:Nat) (xs:List Int) (w:World) (h:RR w g (.ok xs)) :
  Calls Try.prog 92 #[.pointer (some ⟨g,0,none⟩),.int .i64 32] w (RBytesP w g (bytesR 32 xs)):=by
 obtain ⟨A,n,c,hg,hs⟩:=h
 obtain ⟨c0,c1,z0,z1⟩:=row2t hg
 have HG:=Ak hg
 have HS:=Ak hs
 have hlen:=hs.len
 have hcap:=hs.cap
 have hn:=hs.reads.1
 have hU:=takeB_used (xs:=xs) (most:=32) hs.bytes
 obtain ⟨ys,hys⟩:∃ ys,ys=(takeB xs 32).1:=⟨_,rfl⟩
 obtain ⟨q,hq⟩:∃ q,q=(takeB xs 32).2.1:=⟨_,rfl⟩
 obtain ⟨er,her⟩:∃ er,er=(takeB xs 32).2.2:=⟨_,rfl⟩
 have hR:bytesR 32 xs=if er≠0 then .error er else .ok (ys,xs.drop q.toNat):=by unfold bytesR;rw [← hys,← hq,← her]
 rw [← hys,← hq,← her] at hU
 have HGL:=Ak (blk_lt hg)
 have HYS:=Ak hys
 have HQ:=Ak hq
 have HER:=Ak her
 by_cases he:er=0
 ·subst he
  have hq2:=hU.2.1
  obtain ⟨u,rfl⟩:∃ u:Nat,q=(u:Int):=⟨q.toNat,by omega⟩
  have hu3:u≤n:=by omega
  obtain ⟨A',hcut,hcs⟩:=cut_old (A:=A) (n:=n) (c:=c) u hu3
  have HCS:=Ak (hcs w g xs hs)
  rw [if_neg (by simp),Int.toNat_natCast] at hR
  have HR:=Ak hR
  clear hg hs hn hU hys hq her hR hcs hq2 c0 c1 z0 z1
  go_enter Try.func92,Try.ntmps92
  obtain ⟨c0,c1,z0,z1⟩:=row2t HG.out
  go_wp2_with (go_at_call 110;go_must (refine (refTakeBytes_calls A n c xs 32 _ HS.out.reads hcap HS.out.bytes hlen (by decide) (by decide)).mono ?_;rintro e w1 ⟨v,rfl,ho,hb⟩;rw [← HYS.out] at ho;rw [← HQ.out,← HER.out];have HO1:=Ak (own_set (j:=0) (x:=.slice A' (n - u) (c - u)) ho HGL.out);have HG1:=Ak (blk_below HG.out hb);have HB1:=Ak hb;obtain ⟨d0,d1,y0,y1⟩:=row2t HG1.out;clear ho hb))
  go_ret
  rw [HR.out]
  have hch:Chg (fun k=>k=g) w (w1.setCell ⟨g,0,none⟩ (.slice A' (n - u) (c - u))):=chg_trans (Chg.of_below HB1.out) (chg_set _ _ _ _)
  exact ⟨_,rfl,HO1.out,hch,A',n - u,c - u,rr2_0 HG1.out,HCS.out.chg (Nat.le_of_lt HGL.out) (fun k e=>Nat.le_of_eq e.symm) hch⟩
 ·rw [if_pos he] at hR
  have hq1:-9223372036854775808≤q∧q≤9223372036854775807:=by omega
  have he':(er != 0)=true:=by simp [he]
  have HR:=Ak hR
  have HE:=Ak he
  clear hg hs hn hU hys hq her hR c0 c1 z0 z1 he
  go_enter Try.func92,Try.ntmps92
  obtain ⟨c0,c1,z0,z1⟩:=row2t HG.out
  go_wp2_with (go_at_call 110;go_must (refine (refTakeBytes_calls A n c xs 32 _ HS.out.reads hcap HS.out.bytes hlen (by decide) (by decide)).mono ?_;rintro e w1 ⟨v,rfl,ho,hb⟩;rw [← HQ.out,← HER.out];have HG1:=Ak (blk_below HG.out hb);have HB1:=Ak hb;obtain ⟨d0,d1,y0,y1⟩:=row2t HG1.out;clear ho hb))
  go_ret
  rw [HR.out]
  exact ⟨_,rfl,ownB_nil _ _,chg_trans (Chg.of_below HB1.out) (chg_set _ _ _ _),rr_err HG1.out HE.out⟩
def RNameP (w:World) (g:Nat) (R:Except Int (ByteArray × List Int)) (e:Ending) (w':World):Prop:=
 ∃ s,e=.returned (.string s)∧s.size≤140737488355328∧Chg (fun k=>k=g) w w'∧RR w' g (restR R)∧valIs s R
theorem nameR_bytes (xs:List Int):nameR xs=match bytesR 32 xs with
  | .error e=>.error (if e=2 then 8 else e)
  | .ok (y,r)=>if nameB (nameOf y)=true then .ok (nameOf y,r) else .error 8:=by
 unfold nameR bytesR
 by_cases h:(takeB xs 32).2.2=0
 ·have h0:¬ ((takeB xs 32).2.2≠0):=by simp [h]
  rw [if_neg h0,if_neg h0]
 ·rw [if_pos h,if_pos h]
theorem bytesR_err {xs:List Int} {e:Int} (h:bytesR 32 xs=.error e):e≠0:=by
 unfold bytesR at h
 split at h
 ·cases h;assumption
 ·cases h
theorem rr_at {W:World} {g:Nat} {e:Int} (h:RR W g (.error e)):∃ A n c,W.heap[g]?=some (rrB A n c e):=h.2
set_option maxRecDepth 100000 in
set_option maxHeartbeats 4000000 in
theorem refName_ok (g:Nat) (xs:List Int) (w:World) (h:RR w g (.ok xs)) :
  Calls Try.prog 71 #[.pointer (some ⟨g,0,none⟩)] w (RNameP w g (nameR xs)):=by
 have H:=Ak h
 have HGL:=Ak h.lt
 have hlen:xs.length≤140737488355000:=by obtain ⟨_,_,_,_,hs⟩:=h;have:=hs.reads.1;have:=hs.len;omega
 rw [nameR_bytes]
 cases hR:bytesR 32 xs with
 | error er =>
  have HNE:=Ak (bytesR_err hR)
  have HR:=Ak hR
  have HN0:=Ak nameB_nil
  by_cases h2:er=2
  ·subst h2
   clear hR h hlen
   go_enter Try.func71,Try.ntmps71
   go_upto_region 2 with (go_at_call 92;go_must (refine (rBytes_calls g xs _ H.out).mono ?_;rintro e w1 ⟨v,rfl,ho,hc,hst⟩;rw [HR.out] at ho hst;have HO:=Ak (show OwnB w1 w.heap.size v [] from ho);have HC:=Ak hc;have HST:=Ak hst;clear ho hc hst))
   obtain ⟨A9,c9,rfl,-⟩:=own_reads HO.out
   obtain ⟨A1,n1,c1',hg1⟩:=rr_at HST.out
   obtain ⟨c0,c1,z0,z1⟩:=row2t hg1
   have HG1:=Ak hg1
   have h1:=own_conv (own_set (j:=1) (x:=.int .i64 8) HO.out HGL.out)
   simp only [List.length_nil] at h1
   clear hg1
   go_wp2
   go_ret
   exact ⟨_,rfl,by rw [nameOf_size];exact Nat.zero_le _,chg_trans HC.out (chg_set _ _ _ _),rr_err HG1.out (by decide),trivial⟩
  ·have h2':(er == 2)=false:=by simp [h2]
   have he0:(er == 0)=false:=by simp [HNE.out]
   show Calls _ _ _ w (RNameP w g (.error (if er=2 then 8 else er)))
   rw [if_neg h2]
   clear hR h hlen h2
   go_enter Try.func71,Try.ntmps71
   go_upto_region 2 with (go_at_call 92;go_must (refine (rBytes_calls g xs _ H.out).mono ?_;rintro e w1 ⟨v,rfl,ho,hc,hst⟩;rw [HR.out] at ho hst;have HO:=Ak (show OwnB w1 w.heap.size v [] from ho);have HC:=Ak hc;have HST:=Ak hst;clear ho hc hst))
   obtain ⟨A9,c9,rfl,-⟩:=own_reads HO.out
   obtain ⟨A1,n1,c1',hg1⟩:=rr_at HST.out
   obtain ⟨c0,c1,z0,z1⟩:=row2t hg1
   have HG1:=Ak hg1
   have h1:=own_conv HO.out
   simp only [List.length_nil] at h1
   clear hg1
   go_wp2
   go_ret
   exact ⟨_,rfl,by rw [nameOf_size];exact Nat.zero_le _,HC.out,HST.out,trivial⟩
 | ok x =>
  obtain ⟨ys,r⟩:=x
  have HR:=Ak hR
  have hyl:ys.length≤xs.length:=by
   have h1:=takeB_short_ xs 32
   unfold bytesR at hR
   split at hR
   ·cases hR
   ·simp only [Except.ok.injEq,Prod.mk.injEq] at hR;rw [← hR.1];exact h1
  have HSZ:=Ak (show (nameOf ys).size≤140737488355328 by rw [nameOf_size];omega)
  cases hnb:nameB (nameOf ys) with
  | true =>
   have HNB:=Ak hnb
   simp only [hnb]
   clear hR h hlen hnb hyl
   go_enter Try.func71,Try.ntmps71
   go_upto_region 2 with (go_at_call 92;go_must (refine (rBytes_calls g xs _ H.out).mono ?_;rintro e w1 ⟨v,rfl,ho,hc,hst⟩;rw [HR.out] at ho hst;have HO:=Ak (show OwnB w1 w.heap.size v ys from ho);have HC:=Ak hc;have HST:=Ak (show RR w1 g (.ok r) from hst);clear ho hc hst))
   obtain ⟨A9,c9,rfl,-⟩:=own_reads HO.out
   obtain ⟨A1,n1,c1',hg1,hs1⟩:=HST.out
   obtain ⟨c0,c1,z0,z1⟩:=row2t hg1
   have HG1:=Ak hg1
   have h1:=own_conv HO.out
   clear hg1 hs1
   go_wp2_with (go_at_call 36;go_must (refine (refname_calls (nameOf ys) _ HSZ.out).mono ?_;rintro e w2 ⟨rfl,hb⟩;rw [HNB.out];have HO2:=Ak (pw_own_below HO.out hb);have HST2:=Ak (RR.below HST.out hb);have HB2:=Ak hb;have h2:=own_conv HO2.out;clear hb))
   go_ret
   exact ⟨_,rfl,HSZ.out,chg_trans HC.out (Chg.of_below HB2.out),HST2.out,rfl⟩
  | false =>
   have HNB:=Ak hnb
   simp only [hnb]
   clear hR h hlen hnb hyl
   go_enter Try.func71,Try.ntmps71
   go_upto_region 2 with (go_at_call 92;go_must (refine (rBytes_calls g xs _ H.out).mono ?_;rintro e w1 ⟨v,rfl,ho,hc,hst⟩;rw [HR.out] at ho hst;have HO:=Ak (show OwnB w1 w.heap.size v ys from ho);have HC:=Ak hc;have HST:=Ak (show RR w1 g (.ok r) from hst);clear ho hc hst))
   obtain ⟨A9,c9,rfl,-⟩:=own_reads HO.out
   obtain ⟨A1,n1,c1',hg1,hs1⟩:=HST.out
   obtain ⟨c0,c1,z0,z1⟩:=row2t hg1
   have HG1:=Ak hg1
   have h1:=own_conv HO.out
   clear hg1 hs1
   go_wp2_with (first
    | (go_at_call 36;go_must (refine (refname_calls (nameOf ys) _ HSZ.out).mono ?_;rintro e w2 ⟨rfl,hb⟩;rw [HNB.out];have HO2:=Ak (pw_own_below HO.out hb);have HST2:=Ak (RR.below HST.out hb);have HB2:=Ak hb;clear hb))
    | (go_at_call 70;go_must (refine (rfail_any g _ 8 _ HST2.out (by decide)).mono ?_;rintro e w3 ⟨rfl,hc,hst⟩;have HC3:=Ak hc;have HST3:=Ak hst;have h3:=own_conv (ownsRow_same HO2.out fun k hk=>hc.block k (own_lt HO2.out k hk) (by have:=own_base HO2.out k hk;have:=HGL.out;omega));clear hc hst)))
   go_ret
   exact ⟨_,rfl,HSZ.out,chg_trans HC.out (chg_trans (Chg.of_below HB2.out) HC3.out),HST3.out,trivial⟩
end Go.Proofs.Ytcgkeolgflphiaa

namespace Go.Proofs.Ytcgkeolgflphiaa
open Go.RowKit Go.Proofs.YtcgkeolgflphiaaW.PrintWords Go.RegionInvYtcgkeolgflphiaa

def badB (most:Int) (s:Except Int (List Int)) (k:Int):Bool:=match s with
 | .error _=>false
 | .ok _=>decide (k<1∨most<k)
def kindS (most:Int) (s:Except Int (List Int)):Except Int (List Int):=if badB most (byteS s).2 (byteS s).1=true then failS 4 (byteS s).2 else (byteS s).2
theorem kindS_eq (most:Int) (s:Except Int (List Int)):kindS most s=restR (nextR s (kindR most)):=by
 cases s with
 | error e=>rfl
 | ok xs =>
  cases xs with
  | nil=>rfl
  | cons x r =>
   by_cases hx:x<1∨most<x
   ·have h1:badB most (byteS (.ok (x :: r))).2 (byteS (.ok (x :: r))).1=true:=decide_eq_true hx
    unfold kindS
    rw [if_pos h1]
    show _=restR (kindR most (x :: r))
    simp only [kindR]
    rw [if_pos hx]
    rfl
   ·have h1:badB most (byteS (.ok (x :: r))).2 (byteS (.ok (x :: r))).1=false:=decide_eq_false hx
    unfold kindS
    rw [h1,if_neg (by simp)]
    show _=restR (kindR most (x :: r))
    simp only [kindR]
    rw [if_neg hx]
    rfl
theorem kindS_ok {most:Int} {s:Except Int (List Int)} {r:List Int} (h:kindS most s=.ok r):∃ xs,s=.ok xs∧kindR most xs=.ok ((byteS s).1,r):=by
 rw [kindS_eq] at h
 cases s with
 | error e=>cases h
 | ok xs =>
  refine ⟨xs,rfl,?_⟩
  cases hk:kindR most xs with
  | error e=>rw [show nextR (.ok xs) (kindR most)=kindR most xs from rfl,hk] at h;cases h
  | ok x =>
   obtain ⟨k,r'⟩:=x
   rw [show nextR (.ok xs) (kindR most)=kindR most xs from rfl,hk] at h
   simp only [restR,Except.ok.injEq] at h
   subst h
   obtain ⟨rfl,-,-⟩:=kind_put hk
   rfl
theorem byteS_u8 {s:Except Int (List Int)} (h:∀ xs,s=.ok xs→Bytes xs):0≤(byteS s).1∧(byteS s).1≤255:=by
 cases s with
 | error e=>exact ⟨Int.le_refl _,(by decide:(0:Int)≤255)⟩
 | ok xs =>
  cases xs with
  | nil=>exact ⟨Int.le_refl _,(by decide:(0:Int)≤255)⟩
  | cons x r=>exact h _ rfl x (List.mem_cons_self ..)
def deepS (b:Bool) (s:Except Int (List Int)):Except Int (List Int):=if b=true then failS 2 s else s
theorem deepS_err {b:Bool} {s:Except Int (List Int)} {e:Int} (h:deepS b s=.error e):s=.error e∨(b=true∧e=2∧∃ r,s=.ok r):=by
 unfold deepS at h
 split at h
 ·rename_i hb
  cases s with
  | error e'=>exact .inl h
  | ok r=>cases h;exact .inr ⟨hb,rfl,r,rfl⟩
 ·exact .inl h
theorem deepS_ok {b:Bool} {s:Except Int (List Int)} {r:List Int} (h:deepS b s=.ok r):b=false∧s=.ok r:=by
 unfold deepS at h
 split at h
 ·cases s <;> cases h
 ·rename_i hb;exact ⟨by simpa using hb,h⟩
def nextLv (f:Nat) (s:Except Int (List Int)) (m:Int):Except Int (Lv × List Int × Int):=match s with
 | .error e=>.error e
 | .ok xs=>lvR f xs m
theorem nextLv_err {f:Nat} {s:Except Int (List Int)} {m mm d e:Int} (hd1:1≤d) (hd:(f:Int)+d=33) (hmm:∀ xs,s=.ok xs→mm=m+1) (h:deepS (decide (32<d∨100<mm)) (kindS 4 s)=.error e):nextLv f s m=.error e:=by
 cases s with
 | error e'=>rcases deepS_err h with h | ⟨-,-,r,h⟩ <;> cases h;rfl
 | ok xs =>
  obtain rfl:=hmm xs rfl
  rw [kindS_eq] at h
  show lvR f xs m=.error e
  cases hk:kindR 4 xs with
  | error e' =>
   have hs:restR (nextR (.ok xs) (kindR 4))=.error e':=by show restR (kindR 4 xs)=_;rw [hk];rfl
   rw [hs] at h
   rcases deepS_err h with h | ⟨-,-,r,h⟩ <;> cases h
   cases f with
   | zero=>rw [lvR,hk]
   | succ f=>rw [lvR,hk]
  | ok x =>
   obtain ⟨k,r⟩:=x
   have hs:restR (nextR (.ok xs) (kindR 4))=.ok r:=by show restR (kindR 4 xs)=_;rw [hk];rfl
   rw [hs] at h
   rcases deepS_err h with h | ⟨hb,rfl,-⟩
   ·cases h
   ·have hb:=of_decide_eq_true hb
    cases f with
    | zero=>rw [lvR,hk]
    | succ f=>rw [lvR,hk];simp only [];rw [if_pos (by omega)]
theorem RR.box {W:World} {g:Nat} {s:Except Int (List Int)} (h:RR W g s):∃ A n c e,W.heap[g]?=some (rrB A n c e)∧BoxOf W g A n c e s:=by
 cases s with
 | error e=>obtain ⟨h0,A,n,c,hb⟩:=h;exact ⟨A,n,c,e,hb,rfl,h0⟩
 | ok x=>obtain ⟨A,n,c,hb,hs⟩:=h;exact ⟨A,n,c,0,hb,rfl,hs⟩
structure RvBx (w W:World) (g gn gO:Nat) (k n:Int) (V:Value):Prop where
 out:W.heap[gO]?=some (lvO k n V)
 res:W.heap[w.heap.size]?=some (lvO 0 0 (.slice none 0 0))
 chg:Chg (fun k=>k=g∨k=gn) w W
 far:w.heap.size<gO
 glt:g<w.heap.size
 nlt:gn<w.heap.size
 ne:g<gn
def RvSt (W:World) (g gn:Nat) (l:Lv):Except Int (Lv × List Int × Int)→Prop
 | .ok (t,r,m)=>l=t∧RR W g (.ok r)∧NumAt W gn m
 | .error e=>RR W g (.error e)∧∃ m,NumAt W gn m
def RvPost (w:World) (g gn:Nat) (R:Except Int (Lv × List Int × Int)) (e:Ending) (w':World):Prop:=
 ∃ A c l,e=.returned (lvV A c l)∧LvS w' (fun b=>w.heap.size≤b) A c l∧Chg (fun k=>k=g∨k=gn) w w'∧RvSt w' g gn l R
theorem NumAt.chgS {W W':World} {g:Nat} {m:Int} {S:Nat→Prop} (h:NumAt W g m) (hS:¬ S g) (hc:Chg S W W'):NumAt W' g m:=(hc.block g (blk_lt h) hS).trans h
theorem RR.other {W W':World} {g:Nat} {s:Except Int (List Int)} {S:Nat→Prop} (h:RR W g s) (hg:¬ S g) (hS:∀ k,S k→g≤k) (hc:Chg S W W'):RR W' g s:=h.chg (fun k hk=>by rcases Nat.lt_or_ge g k with h1 | h1;exact h1;exact absurd (show S g by rw [show g=k by have:=hS k hk;omega];exact hk) hg) hc
theorem RvBx.reader {w W W':World} {g gn gO:Nat} {k n:Int} {V:Value} (h:RvBx w W g gn gO k n V) (hc:Chg (fun k=>k=g∨k=gn) W W'):RvBx w W' g gn gO k n V:=by
 have:=h.far
 have:=h.glt
 have:=h.nlt
 exact ⟨(hc.block _ (blk_lt h.out) (by omega)).trans h.out,(hc.block _ (blk_lt h.res) (by omega)).trans h.res,chg_trans h.chg hc,h.far,h.glt,h.nlt,h.ne⟩
theorem RvBx.below {w W W':World} {g gn gO:Nat} {k n:Int} {V:Value} (h:RvBx w W g gn gO k n V) (hb:Below W.heap.size W W'):RvBx w W' g gn gO k n V:=h.reader (Chg.of_below hb)
theorem chg_one {W W':World} {g gn:Nat} (h:Chg (fun k=>k=g) W W'):Chg (fun k=>k=g∨k=gn) W W':=h.mono fun _ e=>.inl e
theorem chg_two {W W':World} {g gn:Nat} (h:Chg (fun k=>k=gn) W W'):Chg (fun k=>k=g∨k=gn) W W':=h.mono fun _ e=>.inr e
theorem RR.chgS {W:World} {g:Nat} {s:Except Int (List Int)} (h:RR W g s) (gn:Nat) (x:Value) (hne:g<gn):RR (W.setCell ⟨gn,0,none⟩ x) g s:=
 h.chg (S:=fun k=>k=gn) (fun k e=>by omega) (chg_set W gn 0 x)
theorem rvBx_new {w w2:World} {g gn:Nat} {k:Int} (hg:g<w.heap.size) (hn:gn<w.heap.size) (hne:g<gn) (hc:Chg (fun k=>k=g) (w.alloc (lvO 0 0 (.slice none 0 0))) w2):RvBx w (w2.alloc (lvO k 0 (.slice none 0 0))) g gn w2.heap.size k 0 (.slice none 0 0):=by
 have hz:=hc.size
 have hs:(w.alloc (lvO 0 0 (.slice none 0 0))).heap.size=w.heap.size+1:=by simp
 refine ⟨blk_new _ _,blk_alloc ((hc.block _ (by omega) (by omega)).trans (blk_new _ _)) _,chg_one (chg_trans (Chg.of_below (below_alloc (Below.refl _ _) _)) (chg_trans hc (Chg.of_below (below_alloc (Below.refl _ _) _)))),by omega,hg,hn,hne⟩
theorem rvPost_fin {w W:World} {g gn gO:Nat} {k n:Int} {A:Option Addr} {c L:Nat} {l:List Lv} {R:Except Int (Lv × List Int × Int)} (hb:RvBx w W g gn gO k n (.slice A L c)) (hL:L=l.length) (hl:LvS W (fun b=>gO<b) A c (.mk k n l))
  (hR:RvSt W g gn (Lv.mk k n l) R) :
  RvPost w g gn R (.returned (.agg #[.int .i64 k,.int .i64 n,.slice A L c])) (((W.setCell ⟨w.heap.size,0,none⟩ (.int .i64 k)).setCell ⟨w.heap.size,1,none⟩ (.int .i64 n)).setCell ⟨w.heap.size,2,none⟩ (.slice A L c)):=by
 subst hL
 have hch:=chg_set3 W w.heap.size (.int .i64 k) (.int .i64 n) (.slice A l.length c)
 have hfar:=hb.far
 have hglt:=hb.glt
 have hnlt:=hb.nlt
 have hz:=hb.chg.size
 refine ⟨A,c,.mk k n l,rfl,(hl.same fun b hb' hz=>hch.block b hz (by omega)).mono fun b hb' _=>by omega,?_,?_⟩
 ·refine ⟨hch.os.trans hb.chg.os,hch.tape.trans hb.chg.tape,hch.output.trans hb.chg.output,Nat.le_trans hb.chg.size hch.size,fun i hi hs=>?_⟩
  rw [hch.block i (Nat.lt_of_lt_of_le hi hb.chg.size) (by omega),hb.chg.block i hi hs]
 ·cases R with
  | error e=>exact ⟨hR.1.chg (S:=fun k=>k=w.heap.size) (fun k e=>by omega) hch,by obtain ⟨m,hm⟩:=hR.2;exact ⟨m,hm.chgS (S:=fun k=>k=w.heap.size) (by omega) hch⟩⟩
  | ok x=>exact ⟨hR.1,hR.2.1.chg (S:=fun k=>k=w.heap.size) (fun k e=>by omega) hch,hR.2.2.chgS (S:=fun k=>k=w.heap.size) (by omega) hch⟩
theorem rvPost_fin0 {w W:World} {g gn gO:Nat} {k e m:Int} {R:Except Int (Lv × List Int × Int)} (hb:RvBx w W g gn gO k 0 (.slice none 0 0)) (hE:R=.error e) (hR:RR W g (.error e)) (hm:NumAt W gn m) :
  RvPost w g gn R (.returned (.agg #[.int .i64 k,.int .i64 0,.slice none 0 0])) (((W.setCell ⟨w.heap.size,0,none⟩ (.int .i64 k)).setCell ⟨w.heap.size,1,none⟩ (.int .i64 0)).setCell ⟨w.heap.size,2,none⟩ (.slice none 0 0)):=by
 subst hE
 exact rvPost_fin (l:=[]) hb rfl (LvS.leaf0 _ _ _ _) ⟨hR,m,hm⟩
theorem RvBx.set {w W:World} {g gn gO:Nat} {k n:Int} {V:Value} (h:RvBx w W g gn gO k n V) (a b c:Value):(((W.setCell ⟨w.heap.size,0,none⟩ a).setCell ⟨w.heap.size,1,none⟩ b).setCell ⟨w.heap.size,2,none⟩ c).heap[w.heap.size]?=some (.cells #[a,b,c] 24 (0,0)):=set3 h.res
theorem RvBx.num {w W:World} {g gn gO:Nat} {k n n':Int} {V:Value} (h:RvBx w W g gn gO k n V):RvBx w (W.setCell ⟨gO,1,none⟩ (.int .i64 n')) g gn gO k n' V:=by
 have hc:=chg_set W gO 1 (.int .i64 n')
 have hfar:=h.far
 have hglt:=h.glt
 refine ⟨blk_put h.out 1 _ rfl,(hc.block _ (blk_lt h.res) (by omega)).trans h.res,⟨hc.os.trans h.chg.os,hc.tape.trans h.chg.tape,hc.output.trans h.chg.output,Nat.le_trans h.chg.size hc.size,fun i hi hs=>?_⟩,hfar,hglt,h.nlt,h.ne⟩
 rw [hc.block i (Nat.lt_of_lt_of_le hi h.chg.size) (by omega),h.chg.block i hi hs]
theorem RvBx.row {w W:World} {g gn gO:Nat} {k n:Int} {V V':Value} (h:RvBx w W g gn gO k n V):RvBx w (W.setCell ⟨gO,2,none⟩ V') g gn gO k n V':=by
 have hc:=chg_set W gO 2 V'
 have hfar:=h.far
 have hglt:=h.glt
 refine ⟨blk_put h.out 2 _ rfl,(hc.block _ (blk_lt h.res) (by omega)).trans h.res,⟨hc.os.trans h.chg.os,hc.tape.trans h.chg.tape,hc.output.trans h.chg.output,Nat.le_trans h.chg.size hc.size,fun i hi hs=>?_⟩,hfar,hglt,h.nlt,h.ne⟩
 rw [hc.block i (Nat.lt_of_lt_of_le hi h.chg.size) (by omega),h.chg.block i hi hs]
def RvLst (W:World) (g gn:Nat) (l:List Lv):Except Int (List Lv × List Int × Int)→Prop
 | .ok (l',r,m)=>l=l'∧RR W g (.ok r)∧NumAt W gn m
 | .error e=>RR W g (.error e)∧∃ m,NumAt W gn m
def stP {α:Type}:Except Int (α × List Int × Int)→Except Int (List Int)
 | .ok (_,r,_)=>.ok r
 | .error e=>.error e
theorem RvLst.rr {W:World} {g gn:Nat} {l:List Lv} {R:Except Int (List Lv × List Int × Int)} (h:RvLst W g gn l R):RR W g (stP R):=by
 cases R with
 | error e=>exact h.1
 | ok x=>exact h.2.1
theorem RvLst.chg {W W':World} {g gn:Nat} {l:List Lv} {R:Except Int (List Lv × List Int × Int)} {S:Nat→Prop} (h:RvLst W g gn l R) (hS:∀ k,S k→g<k) (hn:¬ S gn) (hc:Chg S W W'):RvLst W' g gn l R:=by
 cases R with
 | error e=>exact ⟨h.1.chg hS hc,by obtain ⟨m,hm⟩:=h.2;exact ⟨m,hm.chgS hn hc⟩⟩
 | ok x=>exact ⟨h.1,h.2.1.chg hS hc,h.2.2.chgS hn hc⟩
structure RIn (w W:World) (g gn gO:Nat) (k n:Int) (V:Value) (xs:List Lv) (A:Option Addr) (c:Nat) (x:Lv):Prop where
 bx:RvBx w W g gn gO k n V
 kids:KidsAt W (gO+1) V xs
 kid:LvS W (fun b=>gO+1≤b∧V.ownBlock≠some b) A c x
 size:gO+1≤W.heap.size
theorem rin_in {w wr W3 w5:World} {g gn gO:Nat} {k n:Int} {V:Value} {xs:List Lv} {A:Option Addr} {c:Nat} {x:Lv} (hb:RvBx w wr g gn gO k n V) (hk:KidsAt wr (gO+1) V xs) (h3:Below wr.heap.size wr W3) (h5:Chg (fun k=>k=g∨k=gn) W3 w5) (hl:LvS w5 (fun b=>W3.heap.size≤b) A c x):RIn w w5 g gn gO k n V xs A c x:=by
 have hbb:Chg (fun k=>k=g∨k=gn) wr w5:=chg_trans (Chg.of_below h3) h5
 have hlt:=blk_lt hb.out
 have hfar:=hb.far
 have hglt:=hb.glt
 have hnlt:=hb.nlt
 refine ⟨hb.reader hbb,?_,hl.mono fun b hb' _=>⟨by have:=h3.size;omega,fun e=>?_⟩,by have:=hbb.size;omega⟩
 ·obtain ⟨cells,fA,fc,ho,hkk⟩:=hk
  exact ⟨cells,fA,fc,ownsRow_same ho fun b hb2=>hbb.block b (own_lt ho b hb2) (by have:=own_base ho b hb2;omega),fun i y hy=>⟨(hkk i y hy).1,(hkk i y hy).2.1,(hkk i y hy).2.2.1,(hkk i y hy).2.2.2.same fun b hb2 hz=>hbb.block b hz (by have:=hb2.1;omega)⟩⟩
 obtain ⟨cells,fA,fc,hown,_⟩:=hk
 have:=own_lt hown b e
 have:=h3.size
 omega
theorem RIn.drew {w W:World} {g gn gO:Nat} {k n:Int} {V:Value} {xs:List Lv} {A:Option Addr} {c:Nat} {x:Lv} (h:RIn w W g gn gO k n V xs A c x):RIn w W.drew g gn gO k n V xs A c x:=
 ⟨h.bx.below (below_drew (Below.refl _ _)),h.kids.later (below_drew (Below.refl _ _)),h.kid.later (below_drew (Below.refl _ _)),h.size⟩
theorem RIn.cell {w W:World} {g gn gO:Nat} {k n:Int} {V:Value} {xs:List Lv} {A:Option Addr} {c:Nat} {x:Lv} (h:RIn w W g gn gO k n V xs A c x):W.cell? ⟨gO,2,none⟩=some V:=by
 rw [cell_of_row _ _ _ _ _ _ h.bx.out];rfl
theorem RIn.cell2 {w W:World} {g gn gO:Nat} {k n:Int} {V:Value} {xs:List Lv} {A:Option Addr} {c:Nat} {x:Lv} (h:RIn w W g gn gO k n V xs A c x) (ob:Obj):(W.alloc ob).cell? ⟨gO,2,none⟩=some V:=by
 rw [cell_of_row _ _ _ _ _ _ (blk_alloc h.bx.out ob)];rfl
structure ROut (w W5 W:World) (g gn gO:Nat) (k n:Int) (V V6:Value) (xs:List Lv):Prop where
 bx:RvBx w W g gn gO k n V
 kids:KidsAt W (gO+1) V6 xs
 chg:Chg (fun k=>g<k∧gn<k) W5 W
theorem rin_push {w w5 w6:World} {g gn gO:Nat} {k n:Int} {V v6:Value} {xs:List Lv} {A:Option Addr} {c:Nat} {x:Lv} {cells:List Value} {fA:Nat→Option Addr} {fc:Nat→Nat} (h:RIn w w5 g gn gO k n V xs A c x)
  (ho:w5.ownsRow (gO+1) 24 3 V xs.length cells)
  (hk:∀ (i:Nat) (x:Lv),xs[i]?=some x→cells[i * 3]?=some (.int .i64 x.kind)∧cells[i * 3+1]?=some (.int .i64 x.num)∧cells[i * 3+2]?=some (.slice (fA i) x.kids.length (fc i))∧LvS w5 (fun b=>gO+1≤b∧V.ownBlock≠some b) (fA i) (fc i) x)
  (ho1:w6.ownsRow (gO+1) 24 3 v6 (xs.length+1) (cells ++ [.int .i64 x.kind,.int .i64 x.num,.slice A x.kids.length c])) (hg:w5.grownBy w6 V.ownBlock) (hat:v6.ownBlock=V.ownBlock∨∃ b,v6.ownBlock=some b∧w5.heap.size≤b):ROut w w5 w6 g gn gO k n V v6 (xs ++ [x]):=by
 have far:∀ k,k<gO+1→some k≠V.ownBlock:=fun k hk e=>by have:=own_base ho k e.symm;omega
 have hfar:=h.bx.far
 have hglt:=h.bx.glt
 have hnlt:=h.bx.nlt
 have hch:Chg (fun k=>gO+1≤k) w5 w6:=⟨hg.os,hg.tape,hg.output,hg.size,fun i hi hn=>hg.block i hi (far i (by omega))⟩
 refine ⟨⟨(hch.block _ (blk_lt h.bx.out) (by omega)).trans h.bx.out,(hch.block _ (blk_lt h.bx.res) (by omega)).trans h.bx.res,?_,hfar,hglt,hnlt,h.bx.ne⟩,KidsAt.push ho hk h.kid ho1 hg hat,hch.mono fun i hi=>by omega⟩
 refine ⟨hch.os.trans h.bx.chg.os,hch.tape.trans h.bx.chg.tape,hch.output.trans h.bx.chg.output,Nat.le_trans h.bx.chg.size hch.size,fun i hi hs=>?_⟩
 rw [hch.block i (Nat.lt_of_lt_of_le hi h.bx.chg.size) (by omega),h.bx.chg.block i hi hs]
structure RLoop (w W:World) (g gn gO:Nat) (k n:Int) (V:Value) (l:List Lv) (R:Except Int (List Lv × List Int × Int)) (j:Nat):Prop where
 bx:RvBx w W g gn gO k n V
 kids:KidsAt W (gO+1) V l
 st:RvLst W g gn l R
 len:l.length≤j
theorem KidsAt.far {w w':World} {lo:Nat} {V:Value} {xs:List Lv} {S:Nat→Prop} (h:KidsAt w lo V xs) (hc:Chg S w w') (hS:∀ k,S k→k<lo):KidsAt w' lo V xs:=by
 obtain ⟨cells,fA,fc,ho,hkk⟩:=h
 exact ⟨cells,fA,fc,ownsRow_same ho fun b hb2=>hc.block b (own_lt ho b hb2) (fun hs=>by have:=own_base ho b hb2;have:=hS b hs;omega),fun i y hy=>⟨(hkk i y hy).1,(hkk i y hy).2.1,(hkk i y hy).2.2.1,(hkk i y hy).2.2.2.same fun b hb2 hz=>hc.block b hz (fun hs=>by have:=hb2.1;have:=hS b hs;omega)⟩⟩
theorem rout_fin {w w5 w6:World} {g gn gO j:Nat} {k n:Int} {V V6:Value} {xs:List Lv} {R:Except Int (List Lv × List Int × Int)} (h:ROut w w5 w6 g gn gO k n V V6 xs) (hst:RvLst w5 g gn xs R) (hl:xs.length≤j) :
  ∃ v5 l5,Aside0 (RLoop w (w6.setCell ⟨gO,2,none⟩ V6) g gn gO k n v5 l5 R j):=by
 have hfar:=h.bx.far
 have hglt:=h.bx.glt
 have hnlt:=h.bx.nlt
 exact ⟨V6,xs,⟨h.bx.row,h.kids.other (chg_set _ _ _ _) (by omega),(hst.chg (S:=fun k=>g<k∧gn<k) (fun _ h=>h.1) (by omega) h.chg).chg (S:=fun k=>k=gO) (fun k e=>by omega) (by omega) (chg_set _ _ _ _),hl⟩⟩
theorem rl_next {w5:World} {g gn f j:Nat} {m m1:Int} {R0:Except Int (Int × List Int)} {l:List Lv} {l5:Lv} {W:World} (h:RvLst W g gn l (lvPre f R0 m j)) (hm:∀ l' r m',lvPre f R0 m j=.ok (l',r,m')→m1=m') (hp:RvSt w5 g gn l5 (nextLv f (stP (lvPre f R0 m j)) m1)):RvLst w5 g gn (l ++ [l5]) (lvPre f R0 m (j+1)):=by
 cases h0:lvPre f R0 m j with
 | error e=>rw [lvPre_err h0];rw [h0] at hp;exact hp
 | ok x =>
  obtain ⟨l',r,m'⟩:=x
  rw [h0] at h hp
  obtain rfl:=hm _ _ _ h0
  obtain ⟨rfl,-,-⟩:=h
  rw [lvPre_ok h0]
  change RvSt w5 g gn l5 (lvR f r m1) at hp
  cases hl:lvR f r m1 with
  | error e=>rw [hl] at hp;exact hp
  | ok y=>rw [hl] at hp;exact ⟨by rw [hp.1],hp.2⟩
theorem lvPre_stop {f:Nat} {R0:Except Int (Int × List Int)} {m e:Int} {j:Nat} (h:lvPre f R0 m j=.error e):∀ i,lvPre f R0 m (j+i)=.error e
 | 0=>h
 | i+1=>lvPre_err (lvPre_stop h i)
theorem lvR_stop {f:Nat} {xs r:List Int} {m k e:Int} {j:Nat} (hK:kindR 4 xs=.ok (k,r)) (hm:m<100) (hj:j≤lvKids k) (h:lvPre f (lvNum k r) (m+1) j=.error e):lvR (f+1) xs m=.error e:=by
 have:=lvPre_stop h (lvKids k - j)
 rw [show j+(lvKids k - j)=lvKids k by omega] at this
 rw [lvR_pre hK hm,this]
theorem rlLoop_start {w W:World} {g gn gO f:Nat} {k n m:Int} {R0:Except Int (Int × List Int)} (hb:RvBx w W g gn gO k n (.slice none 0 0)) (h:RR W g (restR R0)) (hm:NumAt W gn m):RLoop w W g gn gO k n (.slice none 0 0) [] (lvPre f R0 m 0) 0:=by
 refine ⟨hb,KidsAt.nil _ _,?_,Nat.le_refl _⟩
 cases R0 with
 | error er=>exact ⟨h,m,hm⟩
 | ok x=>exact ⟨rfl,h,hm⟩
theorem rlLoop_end {w W:World} {g gn gO f:Nat} {k m:Int} {A:Option Addr} {L c j:Nat} {l:List Lv} {xs r:List Int} (hK:kindR 4 xs=.ok (k,r)) (hm:m<100) {n:Int} (hn:n=okNum (lvNum k r)) (hj:j≤lvKids k)
  (h:RLoop w W g gn gO k n (.slice A L c) l (lvPre f (lvNum k r) (m+1) j) j) (hL:L=l.length) (hfin:j=lvKids k∨∃ e,lvPre f (lvNum k r) (m+1) j=.error e) :
  RvPost w g gn (lvR (f+1) xs m) (.returned (.agg #[.int .i64 k,.int .i64 n,.slice A L c])) (((W.setCell ⟨w.heap.size,0,none⟩ (.int .i64 k)).setCell ⟨w.heap.size,1,none⟩ (.int .i64 n)).setCell ⟨w.heap.size,2,none⟩ (.slice A L c)):=by
 obtain ⟨A',c',e,hl⟩:=h.kids.level
 injection e with e1 _ e2
 subst e1;subst e2
 have hs:=h.st
 refine rvPost_fin h.bx hL ((hl k n).mono fun b hb _=>by omega) ?_
 cases hp:lvPre f (lvNum k r) (m+1) j with
 | error e=>rw [lvR_stop hK hm hj hp];rw [hp] at hs;exact hs
 | ok x =>
  obtain rfl:j=lvKids k:=by
   rcases hfin with h | ⟨e,h⟩
   ·exact h
   ·rw [hp] at h;cases h
  rw [lvR_pre hK hm,hp]
  obtain ⟨l',r1,m1⟩:=x
  rw [hp] at hs
  exact ⟨by rw [hs.1,hn],hs.2⟩
end Go.Proofs.Ytcgkeolgflphiaa

namespace Go.Proofs.Ytcgkeolgflphiaa
open Go.RowKit Go.Proofs.YtcgkeolgflphiaaW.PrintWords Go.RegionInvYtcgkeolgflphiaa

theorem rl_count {W:World} {g gn f j:Nat} {m:Int} {l:List Lv} {R0:Except Int (Int × List Int)} (h:RvLst W g gn l (lvPre f R0 m j)) (h0:0≤m) (h1:m≤100):∃ m1,NumAt W gn m1∧(∀ l' r m',lvPre f R0 m j=.ok (l',r,m')→m1=m')∧∀ xs,stP (lvPre f R0 m j)=.ok xs→0≤m1∧m1≤100:=by
 cases hp:lvPre f R0 m j with
 | error e =>
  rw [hp] at h
  obtain ⟨-,m1,hm⟩:=h
  exact ⟨m1,hm,by simp,by rintro xs ⟨⟩⟩
 | ok x =>
  obtain ⟨l',r,m'⟩:=x
  rw [hp] at h
  refine ⟨m',h.2.2,fun a b c e=>?_,fun xs _=>lvPre_grow hp h0 h1⟩
  simp only [Except.ok.injEq,Prod.mk.injEq] at e
  exact e.2.2
theorem ar5_1 (W:World):(Instr.index 145 (.agg #[.int .i64 0,.int .i64 0,.int .i64 0,.int .i64 1,.int .i64 2]) (.int .i64 1)).run Try.prog W=.ok (.int .i64 0) W:=by kernel_rfl
theorem ar5_2 (W:World):(Instr.index 145 (.agg #[.int .i64 0,.int .i64 0,.int .i64 0,.int .i64 1,.int .i64 2]) (.int .i64 2)).run Try.prog W=.ok (.int .i64 0) W:=by kernel_rfl
theorem ar5_3 (W:World):(Instr.index 145 (.agg #[.int .i64 0,.int .i64 0,.int .i64 0,.int .i64 1,.int .i64 2]) (.int .i64 3)).run Try.prog W=.ok (.int .i64 1) W:=by kernel_rfl
theorem ar5_4 (W:World):(Instr.index 145 (.agg #[.int .i64 0,.int .i64 0,.int .i64 0,.int .i64 1,.int .i64 2]) (.int .i64 4)).run Try.prog W=.ok (.int .i64 2) W:=by kernel_rfl
set_option maxRecDepth 20000 in
set_option maxHeartbeats 8000000 in
theorem rlevel_step (f:Nat) (IH0:∀ f',f'<f→∀ (g gn:Nat) (s:Except Int (List Int)) (m d:Int) (w:World),1≤d→(f':Int)+d=33→(∀ xs,s=.ok xs→0≤m∧m≤100)→RR w g s→NumAt w gn m→g<gn→Calls Try.prog 111 #[.pointer (some ⟨g,0,none⟩),.int .i64 d,.pointer (some ⟨gn,0,none⟩)] w (RvPost w g gn (nextLv f' s m)))
  (g gn:Nat) (s:Except Int (List Int)) (m d:Int) (w:World) (hd0:1≤d) (hd:(f:Int)+d=33) (hm:∀ xs,s=.ok xs→0≤m∧m≤100) (h:RR w g s) (hn:NumAt w gn m) (hne:g<gn) :
  Calls Try.prog 111 #[.pointer (some ⟨g,0,none⟩),.int .i64 d,.pointer (some ⟨gn,0,none⟩)] w (RvPost w g gn (nextLv f s m)):=by
 have HR:=Ak h
 have HN:=Ak hn
 have HGL:=Ak h.lt
 have HNL:=Ak (blk_lt hn)
 have HNE:=Ak hne
 have HM:=Ak hm
 have IH:=Ak IH0
 have hk8:=byteS_u8 h.bytes
 obtain ⟨k,hk⟩:∃ k,k=(byteS s).1:=⟨_,rfl⟩
 rw [← hk] at hk8
 have HK:=Ak hk
 clear h hn hne IH0 hk hm
 go_enter Try.func111,Try.ntmps111
 go_upto_region 2 with (go_at_call 69;go_must (refine (rbyte_any g s _ (HR.out.below (below_alloc (Below.refl _ _) _))).mono ?_;rintro e w2 ⟨rfl,hc,hst⟩;rw [← HK.out];have HBX:=Ak (rvBx_new (k:=k) HGL.out HNL.out HNE.out hc);have HN2:=Ak (((HN.out.alloc _).chgS (S:=fun k=>k=g) (by have:=HNE.out;omega) hc).alloc (lvO k 0 (.slice none 0 0)));have HST:=Ak (hst.below (below_alloc (Below.refl _ _) (lvO k 0 (.slice none 0 0))));clear hc hst))
 obtain ⟨gO,hgO⟩:∃ gO,gO=w2.heap.size:=⟨_,rfl⟩
 rw [← hgO] at HBX ⊢
 obtain ⟨W3,hW3⟩:∃ W3,W3=w2.alloc (lvO k 0 (.slice none 0 0)):=⟨_,rfl⟩
 rw [← hW3] at HBX HST HN2 ⊢
 clear hW3 hgO HN
 obtain ⟨s1,hs1⟩:∃ s1,s1=(byteS s).2:=⟨_,rfl⟩
 rw [← hs1] at HST
 have HS1:=Ak hs1
 clear hs1
 go_cut [29] (fun u w5=>u=.bool (badB 4 s1 k)∧w5=W3)
 case first =>
  obtain ⟨A3,n3,c3,e3,hg3,hbx3⟩:=HST.out.box
  obtain ⟨c0,c1,-,-⟩:=row2t hg3
  obtain ⟨d0,d1,d2,y0,y1,y2⟩:=row3l HBX.out.out
  clear hg3
  cases s1 with
  | error er =>
   obtain ⟨rfl,hne⟩:=hbx3
   have he:(e3 == 0)=false:=by simp [hne]
   clear hne
   go_wp2
   go_meet
   case rel=>exact ⟨rfl,rfl⟩
  | ok ys =>
   obtain ⟨rfl,-⟩:=hbx3
   by_cases k1:k<1
   ·have hk1:decide (k<1)=true:=decide_eq_true k1
    have HB:=Ak (show badB 4 (.ok ys) k=true from decide_eq_true (.inl k1))
    clear k1
    go_wp2
    go_meet
    case rel=>exact ⟨by rw [HB.out],rfl⟩
   ·by_cases k4:4<k
    ·have hk1:decide (k<1)=false:=decide_eq_false k1
     have hk4:decide (4<k)=true:=decide_eq_true k4
     have HB:=Ak (show badB 4 (.ok ys) k=true from decide_eq_true (.inr k4))
     clear k1 k4
     go_wp2
     go_meet
     case rel=>exact ⟨by rw [HB.out],rfl⟩
    ·have hk1:decide (k<1)=false:=decide_eq_false k1
     have hk4:decide (4<k)=false:=decide_eq_false k4
     have HB:=Ak (show badB 4 (.ok ys) k=false from decide_eq_false (by omega))
     clear k1 k4
     go_wp2
     go_meet
     case rel=>exact ⟨by rw [HB.out],rfl⟩
 case rest =>
  obtain ⟨rfl,rfl⟩:=hcut
  go_upto_if 29 with (fail)
  go_cut [] (fun w5=>Aside0 (RvBx w w5 g gn gO k 0 (.slice none 0 0))∧Aside0 (RR w5 g (kindS 4 s))∧Aside0 (NumAt w5 gn m))
  case first =>
   cases hb:badB 4 s1 k with
   | true =>
    have HB:=Ak hb
    clear hb
    go_wp2_with (go_at_call 70;go_must (refine (rfail_any g s1 4 _ HST.out (by decide)).mono ?_;rintro e w5 ⟨rfl,hc,hst⟩;have HC5:=Ak hc;have HST5:=Ak hst;clear hc hst))
    go_meet
    case rel=>exact ⟨⟨HBX.out.reader (chg_one HC5.out)⟩,⟨by unfold kindS;rw [← HS1.out,← HK.out,if_pos HB.out];exact HST5.out⟩,⟨HN2.out.chgS (S:=fun k=>k=g) (by have:=HNE.out;omega) HC5.out⟩⟩
   | false =>
    have HB:=Ak hb
    clear hb
    go_wp2
    go_meet
    case rel=>exact ⟨HBX,⟨by unfold kindS;rw [← HS1.out,← HK.out,HB.out,if_neg (by simp)];exact HST.out⟩,HN2⟩
  case rest =>
   clear HBX HST HN2
   obtain ⟨HBX,HST,HN⟩:=hcut
   have hnc:=HN.out.cell
   have hnz:=blk_frozen HN.out 0
   go_upto_region 5 with (fail)
   obtain ⟨mm,hmm⟩:∃ mm,mm=wrap64 (m+1):=⟨_,rfl⟩
   rw [← hmm]
   have HMM:=Ak (show ∀ xs,s=.ok xs→mm=m+1 from fun xs hx=>by have:=HM.out xs hx;rw [hmm];unfold wrap64;omega)
   have HB4:=Ak (HBX.out.reader (chg_two (g:=g) (chg_set wc gn 0 (.int .i64 mm))))
   have HN4:=Ak (HN.out.set mm)
   have HST4:=Ak (HST.out.chgS gn (.int .i64 mm) HNE.out)
   obtain ⟨W4,hW4⟩:∃ W4,W4=wc.setCell ⟨gn,0,none⟩ (.int .i64 mm):=⟨_,rfl⟩
   rw [← hW4] at HB4 HN4 HST4 ⊢
   clear hW4 HBX HST HN hnc hnz hmm
   have hnc:=HN4.out.cell
   go_cut [46] (fun u w5=>u=.bool (decide (32<d∨100<mm))∧w5=W4)
   case first =>
    by_cases d1:32<d
    ·have hd1:decide (32<d)=true:=decide_eq_true d1
     have HB:=Ak (show decide (32<d∨100<mm)=true from decide_eq_true (.inl d1))
     clear d1
     go_wp2
     go_meet
     case rel=>exact ⟨by rw [HB.out],rfl⟩
    ·have hd1:decide (32<d)=false:=decide_eq_false d1
     by_cases d2:100<mm
     ·have hd2:decide (100<mm)=true:=decide_eq_true d2
      have HB:=Ak (show decide (32<d∨100<mm)=true from decide_eq_true (.inr d2))
      clear d1 d2
      go_wp2
      go_meet
      case rel=>exact ⟨by rw [HB.out],rfl⟩
     ·have hd2:decide (100<mm)=false:=decide_eq_false d2
      have HB:=Ak (show decide (32<d∨100<mm)=false from decide_eq_false (by omega))
      clear d1 d2
      go_wp2
      go_meet
      case rel=>exact ⟨by rw [HB.out],rfl⟩
   case rest =>
    obtain ⟨rfl,rfl⟩:=hcut
    obtain ⟨bb,hbb⟩:∃ bb,bb=decide (32<d∨100<mm):=⟨_,rfl⟩
    rw [← hbb]
    have HBB:=Ak hbb
    clear hbb
    go_upto_if 46 with (fail)
    go_cut [] (fun w5=>Aside0 (RvBx w w5 g gn gO k 0 (.slice none 0 0))∧Aside0 (RR w5 g (deepS bb (kindS 4 s)))∧Aside0 (NumAt w5 gn mm))
    case first =>
     cases bb with
     | true =>
      go_wp2_with (go_at_call 70;go_must (refine (rfail_any g (kindS 4 s) 2 _ HST4.out (by decide)).mono ?_;rintro e w5 ⟨rfl,hc,hst⟩;have HC5:=Ak hc;have HST5:=Ak hst;clear hc hst))
      go_meet
      case rel=>exact ⟨⟨HB4.out.reader (chg_one HC5.out)⟩,⟨HST5.out⟩,⟨HN4.out.chgS (S:=fun k=>k=g) (by have:=HNE.out;omega) HC5.out⟩⟩
     | false =>
      go_wp2
      go_meet
      case rel=>exact ⟨HB4,HST4,HN4⟩
    case rest =>
     clear HB4 HST4 HN4 hnc
     obtain ⟨HBX,HST,HN⟩:=hcut
     obtain ⟨s3,hs3⟩:∃ s3,s3=deepS bb (kindS 4 s):=⟨_,rfl⟩
     rw [← hs3] at HST
     obtain ⟨A5,n5,c5,e5,hg5,hbx5⟩:=HST.out.box
     obtain ⟨c0,c1,-,-⟩:=row2t hg5
     clear hg5
     cases s3 with
     | error er =>
      obtain ⟨rfl,hne⟩:=hbx5
      have he:(e5 != 0)=true:=by simp [hne]
      have HE:=Ak (show nextLv f s m=.error e5 from nextLv_err hd0 hd HMM.out (by rw [← HBB.out];exact hs3.symm))
      clear hne hs3
      obtain ⟨d0,d1,d2,y0,y1,y2⟩:=row3l HBX.out.out
      obtain ⟨x0,x1,x2,v0,v1,v2⟩:=row3l HBX.out.res
      go_wp2
      refine bodyPost_ret (results_c rfl _ _ w.heap.size 24 #[.int .i64 k,.int .i64 0,.slice none 0 0] (0,0) _ rfl (HBX.out.set _ _ _) Try.underlying24 rfl (by kernel_rfl)) rfl ?_
      exact rvPost_fin0 HBX.out HE.out HST.out HN.out
     | ok r =>
      obtain ⟨rfl,-⟩:=hbx5
      obtain ⟨hbf,hk2⟩:=deepS_ok hs3.symm
      obtain ⟨xs,rfl,hK⟩:=kindS_ok hk2
      rw [← HK.out] at hK
      have hm0:=HM.out xs rfl
      obtain rfl:=HMM.out xs rfl
      have hbf2:=of_decide_eq_false (HBB.out.symm.trans hbf)
      obtain ⟨f,rfl⟩:∃ f',f=f'+1:=⟨f - 1,by omega⟩
      have hk:=(kind_put hK).2
      have HKR:=Ak hK
      have hm1:m<100:=by omega
      clear hs3 hbf hk2 hK HMM
      obtain ⟨nn,hnn⟩:∃ nn,nn=okNum (lvNum k r):=⟨_,rfl⟩
      have HNN:=Ak hnn
      clear hnn
      obtain ⟨mm,hmm⟩:∃ mm,mm=m+1:=⟨_,rfl⟩
      have hmm1:0≤mm∧mm≤100:=by omega
      rw [← hmm] at HN
      have HMM:=Ak hmm
      clear hmm
      obtain ⟨d0,d1,d2,y0,y1,y2⟩:=row3l HBX.out.out
      go_upto_if 60 with (fail)
      clear c0 c1 d0 d1 d2 y0 y1 y2
      go_cut [] (fun w5=>Aside0 (RvBx w w5 g gn gO k nn (.slice none 0 0))∧Aside0 (RR w5 g (restR (lvNum k r)))∧Aside0 (NumAt w5 gn mm))
      case first =>
       by_cases k4:k=4
       ·have HR0:=Ak (show lvNum k r=.ok (0,r) by unfold lvNum;rw [if_pos k4])
        have hk4:(k != 4)=false:=by simp [k4]
        have hnn0:nn=0:=by rw [HNN.out,HR0.out];rfl
        subst hnn0
        clear k4
        go_wp2
        go_meet
        case rel=>exact ⟨HBX,⟨by rw [HR0.out];exact HST.out⟩,HN⟩
       ·have HR0:=Ak (show lvNum k r=numR r by unfold lvNum;rw [if_neg k4])
        have hk4:(k != 4)=true:=by simp [k4]
        clear k4
        go_wp2_with (go_at_call 72;go_must (refine (rnumber_any g (.ok r) _ HST.out).mono ?_;rintro e w6 ⟨rfl,hc,hst⟩;rw [show okNum (nextR (.ok r) numR)=nn by rw [HNN.out,HR0.out];rfl];have HB6:=Ak (HBX.out.reader (chg_one hc));have HST6:=Ak (show RR w6 g (restR (numR r)) from hst);have HN6:=Ak (HN.out.chgS (S:=fun k=>k=g) (by have:=HNE.out;omega) hc);clear hc hst;obtain ⟨p0,p1,p2,q0,q1,q2⟩:=row3l HB6.out.out))
        go_meet
        case rel=>exact ⟨⟨HB6.out.num⟩,⟨by rw [HR0.out];exact HST6.out.chg (S:=fun k=>k=gO) (fun k e=>by have:=HB6.out.far;have:=HB6.out.glt;omega) (chg_set _ _ _ _)⟩,⟨HN6.out.chgS (S:=fun k=>k=gO) (by have:=HB6.out.far;have:=HB6.out.nlt;omega) (chg_set _ _ _ _)⟩⟩
      case rest =>
       clear HBX HST HN
       obtain ⟨HBX,HST,HN⟩:=hcut
       obtain ⟨d0,-,-,y0,-,-⟩:=row3l HBX.out.out
       go_upto_region 11 with (fail)
       obtain ⟨K,hKK⟩:∃ K,K=lvKids k:=⟨_,rfl⟩
       have hK2:K≤2:=by rw [hKK];unfold lvKids;split;exact Nat.le_refl _;split <;> decide
       go_cut [67,68] (fun u v w5=>u=.int .i64 K∧v=.int .i64 0∧w5=wc)
       case first =>
        rcases (show k=1∨k=2∨k=3∨k=4 by omega) with k1 | k1 | k1 | k1
        ·subst k1
         rw [show lvKids 1=0 from rfl] at hKK
         subst hKK
         have hix:=ar5_1
         clear hK2
         go_wp2
         go_meet
         case rel=>exact ⟨rfl,rfl,rfl⟩
        ·subst k1
         rw [show lvKids 2=0 from rfl] at hKK
         subst hKK
         have hix:=ar5_2
         clear hK2
         go_wp2
         go_meet
         case rel=>exact ⟨rfl,rfl,rfl⟩
        ·subst k1
         rw [show lvKids 3=1 from rfl] at hKK
         subst hKK
         have hix:=ar5_3
         clear hK2
         go_wp2
         go_meet
         case rel=>exact ⟨rfl,rfl,rfl⟩
        ·subst k1
         rw [show lvKids 4=2 from rfl] at hKK
         subst hKK
         have hix:=ar5_4
         clear hK2
         go_wp2
         go_meet
         case rel=>exact ⟨rfl,rfl,rfl⟩
       case rest =>
        obtain ⟨rfl,rfl,rfl⟩:=hcut
        have HKK:=Ak hKK
        clear d0 y0 hKK
        go_wp2
        go_loopw [68] (fun i wr=>∃ (j:Nat) (V:Value) (l:List Lv),i=.int .i64 j∧j≤K∧Aside0 (RLoop w wr g gn gO k nn V l (lvPre f (lvNum k r) mm j) j)) (fun i _=>K - (intOf i).toNat)
        case atStart=>exact ⟨0,_,_,rfl,Nat.zero_le _,⟨rlLoop_start HBX.out HST.out HN.out⟩⟩
        case round =>
         obtain ⟨j,V,l,rfl,hj,HL⟩:=hrel
         by_cases hlt:j<K
         ·obtain ⟨m1,hnm,hmq,hmb⟩:=rl_count HL.out.st hmm1.1 hmm1.2
          have HNM:=Ak hnm
          have HMQ:=Ak hmq
          have HMB:=Ak hmb
          have HRS:=Ak HL.out.st.rr
          have hlen:=HL.out.len
          have hcv:=(row3l HL.out.bx.out).2.2.1
          have hcz:=(row3l HL.out.bx.out).2.2.2.2.2
          clear hnm hmq hmb
          go_upto_region 13 with (fail)
          go_cut [] (fun w5=>∃ v5 l5,Aside0 (RLoop w w5 g gn gO k nn v5 l5 (lvPre f (lvNum k r) mm (j+1)) (j+1)))
          case first =>
           have hw9:IntKind.i64.wrap (d+1)=d+1:=IntWalk.i64_in _ (by omega)
           go_region_law (first
            | (go_simp;go_at_call 111;(try rw [hw9]);refine (IH.out f (Nat.lt_succ_self f) g gn _ m1 (d+1) _ (by omega) (by omega) HMB.out (HRS.out.below (by repeat' first | exact Below.refl _ _ | apply below_drew | apply below_alloc)) (HNM.out.below (by repeat' first | exact Below.refl _ _ | apply below_drew | apply below_alloc)) HNE.out).mono ?_;rintro e w5 ⟨A5,c5,l5,rfl,hl5,hc5,hm5⟩;have ST5:=Ak (rin_in HL.out.bx HL.out.kids (by repeat' first | exact Below.refl _ _ | apply below_drew | apply below_alloc) hc5 hl5);have HST5:=Ak (rl_next HL.out.st HMQ.out hm5);have hcv5:=ST5.out.cell;have hcz5:=blk_frozen ST5.out.bx.out 2;have hcw5:=ST5.out.cell2 (.cells #[.int .i64 l5.kind,.int .i64 l5.num,.slice A5 l5.kids.length c5] 24 (0,0));clear hl5 hc5 hm5;simp only [lvV])
            | (first
              | (have STA:=Ak ST5.out;obtain ⟨cells,fA,fc,hown,hkids⟩:=STA.out.kids;refine step_append_cells (w0:=w5) (W:=w5) (gO+1) (by simp [Region.wanted]) (.tmp 71) (.tmp 77) 22 24 _ 3 40 rfl Try.underlying22 infoLv rfl (by decide) (by decide) V l.length cells [.int .i64 l5.kind,.int .i64 l5.num,.slice A5 l5.kids.length c5] rfl rfl rfl (by simp [Value.oneCell']) hown (Below.refl _ _) STA.out.size (by omega) ?_;intro v6 w6 ho6 _ hg6 hat6;obtain ⟨A6,c6,rfl⟩:=own_slice ho6;have ST6:=Ak (rin_push STA.out hown hkids ho6 hg6 hat6);have HSTX:=Ak (HST5.out.chg (S:=fun _=>False) (fun _ h=>h.elim) (fun h=>h) (Chg.of_below (by repeat' first | exact Below.refl _ _ | apply below_drew)):RvLst w5 g gn (l ++ [l5]) (lvPre f (lvNum k r) mm (j+1)));have hcv6:=ST6.out.bx.out;replace hcv6:=(row3l hcv6).2.2.1;have hcz6:=blk_frozen ST6.out.bx.out 2;clear hown hkids ho6 hg6 hat6 STA)
              | (have STA:=Ak ST5.out.drew;obtain ⟨cells,fA,fc,hown,hkids⟩:=STA.out.kids;refine step_append_cells (w0:=w5.drew) (W:=w5.drew) (gO+1) (by simp [Region.wanted]) (.tmp 71) (.tmp 77) 22 24 _ 3 40 rfl Try.underlying22 infoLv rfl (by decide) (by decide) V l.length cells [.int .i64 l5.kind,.int .i64 l5.num,.slice A5 l5.kids.length c5] rfl rfl rfl (by simp [Value.oneCell']) hown (Below.refl _ _) STA.out.size (by omega) ?_;intro v6 w6 ho6 _ hg6 hat6;obtain ⟨A6,c6,rfl⟩:=own_slice ho6;have ST6:=Ak (rin_push STA.out hown hkids ho6 hg6 hat6);have HSTX:=Ak (HST5.out.chg (S:=fun _=>False) (fun _ h=>h.elim) (fun h=>h) (Chg.of_below (by repeat' first | exact Below.refl _ _ | apply below_drew)):RvLst w5.drew g gn (l ++ [l5]) (lvPre f (lvNum k r) mm (j+1)));have hcv6:=ST6.out.bx.out;replace hcv6:=(row3l hcv6).2.2.1;have hcz6:=blk_frozen ST6.out.bx.out 2;clear hown hkids ho6 hg6 hat6 STA)
              | (trace_state;fail)))
           all_goals (try go_wp2)
           all_goals go_meet
           all_goals (exact rout_fin ST6.out HSTX.out (by simp only [List.length_append,List.length_singleton];omega))
          case rest =>
           clear HL hcv hcz HRS HNM HMQ HMB hlen
           obtain ⟨V2,l2,HL⟩:=hcut
           obtain ⟨A6,n6,c6,e6,hg6,hbx6⟩:=HL.out.st.rr.box
           obtain ⟨-,b1,-,-⟩:=row2t hg6
           clear hg6
           cases hP:lvPre f (lvNum k r) mm (j+1) with
           | error er =>
            rw [hP] at hbx6
            obtain ⟨rfl,hne⟩:=hbx6
            have he:(e6 != 0)=true:=by simp [hne]
            have HP:=Ak hP
            obtain ⟨A9,c9,rfl,-⟩:=HL.out.kids.level
            obtain ⟨L9,hL9⟩:∃ L9,L9=l2.length:=⟨_,rfl⟩
            rw [← hL9] at HL
            have HL9:=Ak hL9
            obtain ⟨d0,d1,d2,y0,y1,y2⟩:=row3l HL.out.bx.out
            obtain ⟨e0,e1,e2,x0,x1,x2⟩:=row3l HL.out.bx.res
            clear hL9 hne hP
            go_wp2
            refine bodyPost_ret (results_c rfl _ _ w.heap.size 24 #[.int .i64 k,.int .i64 nn,.slice A9 L9 c9] (0,0) _ rfl (HL.out.bx.set _ _ _) Try.underlying24 rfl (by kernel_rfl)) rfl ?_
            have HLX:=HL.out
            have HPX:=HP.out
            rw [HMM.out] at HLX HPX
            exact rlLoop_end HKR.out hm1 HNN.out (by rw [← HKK.out];omega) HLX HL9.out (.inr ⟨_,HPX⟩)
           | ok x =>
            rw [hP] at hbx6
            obtain ⟨rfl,-⟩:=hbx6
            clear hP
            go_wp2
            go_roundw
            case rel=>exact ⟨j+1,V2,l2,by go_num,by omega,HL⟩
            case measure=>(simp [intOf];try omega)
         ·obtain rfl:j=K:=by omega
          have hlt':decide ((j:Int)<j)=false:=by simp
          obtain ⟨A9,c9,rfl,-⟩:=HL.out.kids.level
          obtain ⟨L9,hL9⟩:∃ L9,L9=l.length:=⟨_,rfl⟩
          rw [← hL9] at HL
          have HL9:=Ak hL9
          obtain ⟨d0,d1,d2,y0,y1,y2⟩:=row3l HL.out.bx.out
          obtain ⟨e0,e1,e2,x0,x1,x2⟩:=row3l HL.out.bx.res
          clear hL9
          go_wp2
          refine bodyPost_ret (results_c rfl _ _ w.heap.size 24 #[.int .i64 k,.int .i64 nn,.slice A9 L9 c9] (0,0) _ rfl (HL.out.bx.set _ _ _) Try.underlying24 rfl (by kernel_rfl)) rfl ?_
          have HLX:=HL.out
          rw [HMM.out] at HLX
          exact rlLoop_end HKR.out hm1 HNN.out (by rw [← HKK.out];omega) HLX HL9.out (.inl HKK.out)
theorem rlevel_any (f:Nat):∀ (g gn:Nat) (s:Except Int (List Int)) (m d:Int) (w:World),1≤d→(f:Int)+d=33→(∀ xs,s=.ok xs→0≤m∧m≤100)→RR w g s→NumAt w gn m→g<gn→Calls Try.prog 111 #[.pointer (some ⟨g,0,none⟩),.int .i64 d,.pointer (some ⟨gn,0,none⟩)] w (RvPost w g gn (nextLv f s m)):=by
 induction f using Nat.strongRecOn with
 | _ f ih=>exact fun g gn s m d w h1 h2 h3 h4 h5 h6=>rlevel_step f ih g gn s m d w h1 h2 h3 h4 h5 h6
end Go.Proofs.Ytcgkeolgflphiaa
