/-
  Merged: InU, InV, ValR, RefP, RfT, RfPl, RfBo, RfNR, RfN, RfL, RfIR, RfI, LsR, BarR, RLV, RwL, NodL, ReIl, InsL, RInL.
-/
import Derived.Test.YtdboloabpjmgaaaMInst4
namespace Go.Proofs.Ytdboloabpjmgaaa
open Go.RowKit Go.Proofs.YtdboloabpjmgaaaW.PrintWords Go.RegionInvYtdboloabpjmgaaa Go.RegionEYtdboloabpjmgaaa

abbrev instC (bx gi:Nat):Value:=.func (.func 111) #[] #[.pointer (some ⟨bx,0,none⟩),.pointer (some ⟨gi,0,none⟩)]
theorem good_n0 {k n:Int} {ks:List Lv} (h:Good (.mk k n ks)):0≤n∨k≠2:=by
 rcases good_cases h with ⟨rfl,_,h0,_⟩ | ⟨rfl,_,h0,_⟩ | ⟨rfl,_,_,h0,_⟩ | ⟨rfl,_⟩
 ·exact .inl h0
 ·exact .inl h0
 ·exact .inl (by omega)
 ·exact .inr (by decide)
theorem good_kid {k n:Int} {ks:List Lv} {i:Nat} {x:Lv} (h:Good (.mk k n ks)) (hx:ks[i]?=some x):Good x:=by
 cases h with
 | mk _ hk=>exact hk x (List.mem_of_getElem? hx)
theorem inst1_at (vs:List Lv) (Av:Option Addr) (nv cv:Nat) (k n:Int) (ks:List Lv) (A:Option Addr) (m c:Nat) (d:Int) (bx gi G:Nat) (fs:List Nf) (w:World) (hg:Good (.mk k n ks)) (hK:InK w bx gi G Av nv cv vs) (hin:InAt w (fun k=>G<k) G fs) (hl:fs.length=nv) :
  Calls Try.prog 111 #[.agg #[.int .i64 k,.int .i64 n,.slice A m c],.int .i64 d,.pointer (some ⟨bx,0,none⟩),.pointer (some ⟨gi,0,none⟩)] w (InPost w G (insvF vs k n fs)):=
 linst1_calls vs Av nv cv k n A m c d bx gi G fs w hK hin hl (good_n0 hg)
set_option maxHeartbeats 4000000 in
theorem walk_inst (vs:List Lv) (Av:Option Addr) (nv cv bx gi G:Nat) (N:Nat):∀ (l:Lv),SizeOf.sizeOf l<N→Good l→∀ (A:Option Addr) (c:Nat) (d:Int) (fs:List Nf) (w:World),LvIn w bx A c l→InK w bx gi G Av nv cv vs→InAt w (fun k=>G<k) G fs→fs.length=nv →
  Calls Try.prog 110 #[lvV A c l,.int .i64 d,instC bx gi] w (InPost w G (instP vs l fs)):=by
 induction N with
 | zero=>intro l h;omega
 | succ N ih =>
  rintro ⟨lk,ln,ks⟩ hN hgood A c d fs w hin hK hI hl
  have IH:=Ak ih
  have HIN:=Ak hin
  have HK:=Ak hK
  have HI:=Ak hI
  have HL:=Ak hl
  have HGD:=Ak hgood
  have hGz:=hI.lt
  have hbG:=hK.ne
  have hlen:=hin.len
  simp only [Lv.kids] at hlen
  have hl9:ks.length≤9223372036854775807:=by omega
  clear ih hin hK hI hl hgood hlen
  unfold instC lvV
  simp only [Lv.kind,Lv.num,Lv.kids]
  obtain ⟨m,hm⟩:∃ m,m=ks.length:=⟨_,rfl⟩
  rw [← hm] at hl9 ⊢
  have HM:=Ak hm
  clear hm
  go_enter Try.func110,Try.ntmps110
  have hba:∀ o:Obj,Below w.heap.size w (w.alloc o):=fun o=>below_alloc (Below.refl _ _) _
  have HBA:=Ak hba
  clear hba
  obtain ⟨e0,fs0,hes⟩:∃ a b,insvF vs lk ln fs=(a,b):=⟨_,_,rfl⟩
  have HV:=Ak hes
  have HL0:=Ak (show fs0.length=nv by have:=insvF_len vs lk ln fs;rw [hes] at this;exact this.trans HL.out)
  by_cases h1:e0=0
  ·subst h1
   have HE:=Ak (show instP vs (.mk lk ln ks) fs=instKs vs ks fs0 by rw [instP_go (by rw [hes]),hes])
   clear hes
   go_wp2_with (go_at_call 111;go_must (refine (inst1_at vs Av nv cv lk ln ks A m c d bx gi G fs _ HGD.out (HK.out.later (Chg.of_below (HBA.out _))) (inAt_later HI.out (HBA.out _)) HL.out).mono ?_;rintro e w1 ⟨rfl,hg1,hc1⟩;rw [HV.out] at hg1 ⊢;have HI1:=Ak hg1;have hbox:=chg_cell hc1 (box_cell w #[.int .i64 lk,.int .i64 ln,.slice A m c] 25 2 _ rfl) (Nat.ne_of_gt hGz);have HC1:=Ak (chg_trans (chg_alloc _ _ _) hc1);clear hg1 hc1))
   go_loopw [21] (fun i wr=>∃ (k:Nat) (fs':List Nf),i=.int .i64 k∧k≤m∧Aside0 (fs'.length=nv)∧Aside0 (instKs vs (ks.drop k) fs'=instP vs (.mk lk ln ks) fs)∧Aside0 (InAt wr (fun k=>G<k) G fs')∧Aside0 (Chg (fun k=>k=G) w wr)) (fun i _=>m - (intOf i).toNat)
   case atStart=>exact ⟨0,fs0,rfl,Nat.zero_le _,HL0,⟨HE.out.symm⟩,HI1,HC1⟩
   case round =>
    clear HE HV HI1 HC1 hbox
    obtain ⟨k,fs',rfl,hk,HL1,HE,HI1,HC1⟩:=hrel
    have HIN2:=Ak (LvIn.stay HIN.out (chg_below HC1.out (Nat.le_of_lt hbG) (Nat.le_of_lt (Nat.lt_of_lt_of_le (Nat.lt_trans hbG hGz) (Nat.le_refl _)))))
    have HK2:=Ak (HK.out.later HC1.out)
    by_cases hlt:k<m
    ·have hlt2:k<ks.length:=by rw [← HM.out];exact hlt
     obtain ⟨x,hx⟩:∃ x,ks[k]?=some x:=⟨_,List.getElem?_eq_getElem hlt2⟩
     obtain ⟨A',c',hcs,hin⟩:=HIN2.out.kid k x hx
     obtain ⟨ad,rfl,hc1,hc2,hc3⟩:=hcs.facts
     clear hcs
     have HX:=Ak hx
     have HXIN:=Ak hin
     have HXG:=Ak (good_kid HGD.out hx)
     clear hx hin hlt2
     have hG2:=HI1.out.lt
     have HBB:=Ak (show ∀ o:Obj,Below wr.heap.size wr (wr.alloc o) from fun o=>below_alloc (Below.refl _ _) _)
     obtain ⟨e2,fs2,hes⟩:∃ a b,instP vs x fs'=(a,b):=⟨_,_,rfl⟩
     have HV:=Ak hes
     by_cases h2:e2=0
     ·subst h2
      have HKK:=Ak (show instKs vs (ks.drop (k+1)) fs2=instP vs (.mk lk ln ks) fs by rw [← HE.out,drop_kid HX.out,instKs_go (by rw [hes]),hes])
      have HL2:=Ak (show fs2.length=nv by have:=inst_len vs x fs';rw [hes] at this;exact this.trans HL1.out)
      clear hes
      go_wp2_with (go_at_call 110;go_must (refine (IH.out x (Nat.lt_of_lt_of_le (kid_small HX.out) (Nat.le_of_lt_succ hN)) HXG.out A' c' _ fs' _ (LvIn.stay HXIN.out ((Below.refl _ _).alloc (Nat.le_of_lt (Nat.lt_trans hbG hG2)) _)) (HK2.out.later (Chg.of_below (HBB.out _))) (inAt_later HI1.out (HBB.out _)) HL1.out).mono ?_;rintro e w2 ⟨rfl,hg1,hc1⟩;rw [HV.out] at hg1 ⊢;have HI2:=Ak hg1;have HC2:=Ak (chg_trans HC1.out (chg_trans (chg_alloc _ _ _) hc1));clear hg1 hc1))
      go_roundw
      case rel=>exact ⟨k+1,fs2,by go_num,by omega,HL2,HKK,HI2,HC2⟩
      case measure=>(simp [intOf];try omega)
     ·have HKK:=Ak (show (e2,fs2)=instP vs (.mk lk ln ks) fs by rw [← HE.out,drop_kid HX.out,instKs_stop (by rw [hes];exact h2),hes])
      have h2':(e2 != 0)=true:=by simpa using h2
      clear hes h2
      go_wp2_with (go_at_call 110;go_must (refine (IH.out x (Nat.lt_of_lt_of_le (kid_small HX.out) (Nat.le_of_lt_succ hN)) HXG.out A' c' _ fs' _ (LvIn.stay HXIN.out ((Below.refl _ _).alloc (Nat.le_of_lt (Nat.lt_trans hbG hG2)) _)) (HK2.out.later (Chg.of_below (HBB.out _))) (inAt_later HI1.out (HBB.out _)) HL1.out).mono ?_;rintro e w2 ⟨rfl,hg1,hc1⟩;rw [HV.out] at hg1 ⊢;have HI2:=Ak hg1;have HC2:=Ak (chg_trans HC1.out (chg_trans (chg_alloc _ _ _) hc1));clear hg1 hc1))
      go_ret
      rw [← HKK.out]
      exact ⟨rfl,HI2.out,HC2.out⟩
    ·obtain rfl:k=m:=by omega
     have hlt':decide ((k:Int)<k)=false:=by simp
     have HW:=Ak (show instP vs (.mk lk ln ks) fs=(0,fs') by rw [← HE.out,List.drop_of_length_le (by rw [← HM.out];exact Nat.le_refl _),instKs])
     go_wp2
     go_ret
     rw [HW.out]
     exact ⟨rfl,HI1.out,HC1.out⟩
  ·have HE:=Ak (show instP vs (.mk lk ln ks) fs=(e0,fs0) by rw [instP_stop (by rw [hes];exact h1),hes])
   have h1':(e0 != 0)=true:=by simp [h1]
   clear h1 hes
   go_wp2_with (go_at_call 111;go_must (refine (inst1_at vs Av nv cv lk ln ks A m c d bx gi G fs _ HGD.out (HK.out.later (Chg.of_below (HBA.out _))) (inAt_later HI.out (HBA.out _)) HL.out).mono ?_;rintro e w1 ⟨rfl,hg1,hc1⟩;rw [HV.out] at hg1 ⊢;have HI1:=Ak hg1;have HC1:=Ak (chg_trans (chg_alloc _ _ _) hc1);clear hg1 hc1))
   go_ret
   rw [HE.out]
   exact ⟨rfl,HI1.out,HC1.out⟩
end Go.Proofs.Ytdboloabpjmgaaa

namespace Go.Proofs.Ytdboloabpjmgaaa
open Go.RowKit Go.Proofs.YtdboloabpjmgaaaW.PrintWords Go.RegionInvYtdboloabpjmgaaa Go.RegionEYtdboloabpjmgaaa

theorem infoNorm:(Try.prog.info? 102).map (fun i=>(i.zero,i.size,i.bytes))=some (some (.agg #[.int .i64 0,.slice none 0 0]),2,32):=by kernel_rfl
theorem norm_make (m:Nat) (hm:m≤1000):∀ W:World,(Instr.makeSlice 99 (.int .i64 (m:Int)) (.int .i64 (m:Int))).run Try.prog W=.ok (.slice (some ⟨W.heap.size,0,none⟩) m m) (W.alloc (.cells (madeCells #[.int .i64 0,.slice none 0 0] (m * 2)) 102)):=by
 intro W
 obtain ⟨i,hi,he⟩:=Option.map_eq_some_iff.1 infoNorm
 simp only [Prod.mk.injEq] at he
 obtain ⟨h1,h2,h3⟩:=he
 have:=run_make (P:=Try.prog) W 99 102 i _ Try.underlying99 hi h1 .i64 .i64 m m (by omega) (Int.le_refl _) (by rw [h3];omega) (by omega)
 rw [h2] at this
 simpa only [Int.toNat_natCast,show (Value.agg #[.int .i64 0,.slice none 0 0]).cells = #[.int .i64 0,.slice none 0 0] from rfl] using this
theorem in_new (w:World) (S:Nat→Prop) (nv:Nat):InAt (w.alloc (.cells (madeCells #[.int .i64 0,.slice none 0 0] (nv * 2)) 102)) S w.heap.size (List.replicate nv (0,[])):=by
 refine ⟨_,blk_new w _,by simp [size_madeCells],fun i f hf=>?_⟩
 obtain ⟨hi,rfl⟩:=List.getElem?_eq_some_iff.1 hf
 simp only [List.length_replicate] at hi
 simp only [List.getElem_replicate,List.length_nil]
 refine ⟨none,0,?_,?_,Nat.le_refl _,IntsS.nil _ _⟩
 ·rw [Array.getElem?_eq_getElem (by simp [size_madeCells];omega)]
  simp [madeCells]
 ·rw [Array.getElem?_eq_getElem (by simp [size_madeCells];omega)]
  simp [madeCells,Nat.add_mod]
def NfL (f:Nf):Prop:=NfOk f∧f.2.length≤1001
theorem sum_nfl {l:Lv} (h:soundB l=true):NfL (sumP l):=⟨sumP_ok h,len_le (good_of_sound h)⟩
theorem zero_nfl:NfL (0,[]):=⟨⟨(by decide),(by decide),(fun x hx=>by simp at hx),(by simp)⟩,(by simp)⟩
theorem insvF_nfl (vs:List Lv) (k n:Int) {fs:List Nf} (h:∀ f∈fs,NfL f):∀ f∈(insvF vs k n fs).2,NfL f:=by
 unfold insvF
 split
 ·split
  ·rename_i hs
   intro f hf
   rcases List.mem_or_eq_of_mem_set hf with hf | rfl
   ·exact h f hf
   ·exact sum_nfl hs
  ·exact h
 ·exact h
mutual
theorem inst_nfl (vs:List Lv):(l:Lv)→(fs:List Nf)→(∀ f∈fs,NfL f)→∀ f∈(instP vs l fs).2,NfL f
 | .mk k n ks,fs,h=>by
  rw [instP];split
  ·exact insvF_nfl vs k n h
  ·exact insts_nfl vs ks _ (insvF_nfl vs k n h)
theorem insts_nfl (vs:List Lv):(ks:List Lv)→(fs:List Nf)→(∀ f∈fs,NfL f)→∀ f∈(instKs vs ks fs).2,NfL f
 | [],fs,h=>by rw [instKs];exact h
 | x :: r,fs,h=>by
  rw [instKs];split
  ·exact inst_nfl vs x fs h
  ·exact insts_nfl vs r _ (inst_nfl vs x fs h)
end
theorem ofP_len {fs:List Nf} (hfs:∀ f∈fs,NfL f) {l:Lv} (h:Good l):(ofP fs l).2.length≤1001:=by
 induction h with
 | @mk k n ks h hk ih =>
  rcases good_cases (.mk h hk) with ⟨rfl,rfl,h0,h1⟩ | ⟨rfl,rfl,h0,h1⟩ | ⟨rfl,x,rfl,h0,h1,-⟩ | ⟨rfl,x,y,rfl,-,-⟩
  ·rw [ofP_num];simp
  ·rw [ofP_var]
   unfold varN
   split
   ·rw [List.getD_eq_getElem?_getD]
    cases e:fs[n.toNat]? with
    | none=>simp
    | some f=>exact (hfs f (List.mem_of_getElem? e)).2
   ·simp;omega
  ·have:=ih x (by simp)
   rw [ofP_succ]
   simpa [plusN] using this
  ·have hx:=ih x (by simp)
   have hy:=ih y (by simp)
   rw [ofP_max,or_len]
   omega
theorem ofP_nfl {fs:List Nf} (hfs:∀ f∈fs,NfL f) {l:Lv} (h:Good l):NfL (ofP fs l):=⟨ofP_ok (fun f hf=>(hfs f hf).1) h,ofP_len hfs h⟩
theorem of_at (S:Nat→Prop) (Av:Option Addr) (nv cv:Nat) (fs:List Nf) (hl:fs.length=nv) (hfs:∀ f∈fs,NfOk f) (hlen:nv≤9223372036854775807) (l:Lv) (hg:Good l) (A:Option Addr) (c:Nat) (w:World) (hin:LvIn w w.heap.size A c l) (hf:NfsS w S Av fs) (hS:∀ k,S k→k<w.heap.size) :
  Calls Try.prog 112 #[lvV A c l,.slice Av nv cv] w (NfGot w S (ofP fs l)):=by
 subst hl
 exact of_calls S Av cv fs hfs hlen _ l (Nat.lt_succ_self _) hg A c w hin hf hS
theorem zero_got (w w':World) (hb:Below w.heap.size w w'):LvGot w (fun _=>False) (.mk 0 0 []) (.returned (.agg #[.int .i64 0,.int .i64 0,.slice none 0 0])) w':=⟨none,0,rfl,LvS.leaf _ _ _ _,hb⟩
set_option maxHeartbeats 4000000 in
theorem inst_calls (A:Option Addr) (c:Nat) (l:Lv) (Av:Option Addr) (nv cv:Nat) (vs:List Lv) (w:World) (hin:LvIn w w.heap.size A c l) (hv:LvIn w w.heap.size Av cv (.mk 0 0 vs)) (hn:nv=vs.length) (hn50:nv≤1000) :
  Calls Try.prog 88 #[lvV A c l,.slice Av nv cv] w (LvGot w (fun _=>False) (instL vs l)):=by
 have HIN:=Ak hin
 have HV:=Ak hv
 have HN:=Ak hn
 have hl9:l.kids.length≤9223372036854775807:=by have:=hin.len;omega
 have MK:=norm_make nv hn50
 clear hin hv hn
 unfold lvV
 obtain ⟨w0,hw0⟩:∃ w0,w0=((w.alloc (.cells #[.int .i64 l.kind,.int .i64 l.num,.slice A l.kids.length c] 25 (0,0))).alloc (.cells #[.slice Av nv cv] 23 (0,0))).alloc (.cells #[.int .i64 0,.int .i64 0,.slice none 0 0] 25 (0,0)):=⟨_,rfl⟩
 have hb0:Below w.heap.size w w0:=by rw [hw0];exact below_alloc (below_alloc (below_alloc (Below.refl _ _) _) _) _
 have HX0:=Ak (show w0.heap[w.heap.size]?=some (.cells #[.int .i64 l.kind,.int .i64 l.num,.slice A l.kids.length c] 25 (0,0)) by rw [hw0];exact blk_alloc (box0 w _ _) _)
 have HV0:=Ak (show w0.heap[w.heap.size+1]?=some (.cells #[.slice Av nv cv] 23 (0,0)) by rw [hw0];exact blk_alloc (box1 w _ _) _)
 have HY0:=Ak (show w0.heap[w.heap.size+2]?=some (.cells #[.int .i64 0,.int .i64 0,.slice none 0 0] 25 (0,0)) by rw [hw0];simpa using blk_new ((w.alloc _).alloc _) _)
 have HB0:=Ak hb0
 clear hb0
 go_enter Try.func88,Try.ntmps88
 go_upto_region 1 with (fail)
 rw [← hw0]
 clear hw0
 obtain ⟨p0,p1,p2,-,-,-⟩:=row3 HX0.out
 cases hs:soundB l with
 | false =>
  have HS:=Ak hs
  have HE:=Ak (show instL vs l=.mk 0 0 [] by unfold instL;rw [if_neg (by rw [hs];simp)])
  clear hs
  go_upto_region 2 with (first
   | (go_at_call 109;go_must (refine (sound_calls A c l _ (LvS.all (HIN.out.stay HB0.out))).mono ?_;rintro e w1 ⟨rfl,hb⟩;rw [HS.out];have HB1:=Ak (below_then HB0.out HB0.out.size hb);have HY1:=Ak (blk_below HY0.out hb);obtain ⟨z0,z1,z2,q0,q1,q2⟩:=row3 HY1.out;clear hb)))
  go_wp2
  refine bodyPost_ret (results_c rfl _ _ (w.heap.size+1+1) 25 #[.int .i64 0,.int .i64 0,.slice none 0 0] (0,0) _ rfl (set3 HY1.out) Try.underlying25 rfl (by kernel_rfl)) rfl ?_
  rw [HE.out]
  exact zero_got _ _ (Chg.trans_below HB1.out (chg_set3 _ _ _ _ _) (fun _ e=>by omega) HB1.out.size)
 | true =>
  have HS:=Ak hs
  clear hs
  go_upto_region 4 with (first
   | (go_at_call 109;go_must (refine (sound_calls A c l _ (LvS.all (HIN.out.stay HB0.out))).mono ?_;rintro e w1 ⟨rfl,hb⟩;rw [HS.out];have HB1:=Ak (below_then HB0.out HB0.out.size hb);have HX1:=Ak (blk_below HX0.out hb);have HV1:=Ak (blk_below HV0.out hb);have HY1:=Ak (blk_below HY0.out hb);obtain ⟨p0,p1,p2,-,-,-⟩:=row3 HX1.out;have pv:=(show w1.cell? ⟨w.heap.size+1,0,none⟩=some (.slice Av nv cv) by rw [cell_of_row _ _ _ _ _ _ HV1.out];rfl);clear hb)))
  clear p0 p1 p2 pv MK
  obtain ⟨G,hG⟩:∃ G,G=w1.heap.size:=⟨_,rfl⟩
  have hyl:=blk_lt HY1.out
  obtain ⟨w2,hw2⟩:∃ w2,w2=(w1.alloc (.cells (madeCells #[.int .i64 0,.slice none 0 0] (nv * 2)) 102)).alloc (.cells #[.slice (some ⟨w1.heap.size,0,none⟩) nv nv] 99):=⟨_,rfl⟩
  have hb2:Below w1.heap.size w1 w2:=by rw [hw2];exact two_boxes _ _
  have hi2:InAt w2 (fun k=>G<k) G (List.replicate nv (0,[])):=by
   rw [hw2,hG];exact (in_new w1 _ nv).same (by rw [blk_alloc (blk_new w1 _)];exact (blk_new w1 _).symm) fun k _ hk=>(below_alloc (Below.refl _ _) _).block k hk
  have hk2:InK w2 (w.heap.size+1) (G+1) G Av nv cv vs:=⟨blk_below HV1.out hb2,by rw [hw2,hG];exact box1 w1 _ _,by omega,rfl,LvIn.mono ((HV.out.stay HB1.out).stay (hb2.mono (by omega))) (Nat.le_succ _),HN.out⟩
  have HI2:=Ak hi2
  have HK2:=Ak hk2
  have HB2:=Ak (below_then HB1.out HB1.out.size hb2)
  have HX2:=Ak (blk_below HX1.out hb2)
  have HY2:=Ak (blk_below HY1.out hb2)
  rw [← hw2,← hG]
  have HGZ:=Ak (show w.heap.size+3≤G by omega)
  obtain ⟨p0,p1,p2,-,-,-⟩:=row3 HX2.out
  clear hw2 hb2 hi2 hk2 hG hyl
  obtain ⟨e3,fs3,hes⟩:∃ a b,instP vs l (List.replicate nv (0,[]))=(a,b):=⟨_,_,rfl⟩
  have HV3:=Ak hes
  by_cases he:e3=0
  ·subst he
   have HIE:=Ak (show instL vs l=lvlN (shortN (ofP (vs.map sumP) l)) by unfold instL;rw [if_pos ⟨HS.out,by rw [← HN.out,hes]⟩])
   have HL3:=Ak (show fs3.length=nv by have:=inst_len vs l (List.replicate nv (0,[]));rw [hes] at this;simpa using this)
   have HOF:=Ak (show ofP fs3 l=ofP (vs.map sumP) l from inst_sum (good_of_sound HS.out) (List.replicate nv (0,[])) fs3 (by simp [HN.out]) (by rw [hes]) (by rw [hes];exact ⟨rfl,fun _ _ h=>h⟩))
   have HFS:=Ak (show ∀ f∈fs3,NfL f by have:=inst_nfl vs l (List.replicate nv (0,[])) (fun f hf=>by rw [(List.mem_replicate.1 hf).2];exact zero_nfl);rw [hes] at this;exact this)
   clear hes
   go_upto_region 7 with (first
    | (go_at_call 110;go_must (refine (walk_inst vs Av nv cv (w.heap.size+1) (G+1) G _ l (Nat.lt_succ_self _) (good_of_sound HS.out) A c 1 _ _ (LvIn.mono (HIN.out.stay HB2.out) (by omega)) HK2.out HI2.out (by simp)).mono ?_;rintro e w3 ⟨rfl,hi3,hc3⟩;rw [HV3.out] at hi3 ⊢;have HI3:=Ak hi3;have HK3:=Ak (HK2.out.later hc3);have HB3:=Ak (Chg.trans_below HB2.out hc3 (fun _ e=>by have:=HGZ.out;omega) HB2.out.size);have HX3:=Ak ((hc3.block _ (blk_lt HX2.out) (by have:=HGZ.out;omega)).trans HX2.out);have HY3:=Ak ((hc3.block _ (blk_lt HY2.out) (by have:=HGZ.out;omega)).trans HY2.out);obtain ⟨r0,r1,r2,-,-,-⟩:=row3 HX3.out;have pr:=(show w3.cell? ⟨G+1,0,none⟩=some (.slice (some ⟨G,0,none⟩) nv nv) by rw [cell_of_row _ _ _ _ _ _ HK3.out.row];rfl);clear hi3 hc3)))
   have HFO:=Ak (ofP_nfl HFS.out (good_of_sound HS.out))
   have HNE:=Ak (parts_ne HFO.out.1)
   have HSO:=Ak (short_ok HFO.out.1)
   have HSL:=Ak (Nat.le_trans (short_len_le _) HFO.out.2)
   have HGZ3:=Ak HI3.out.lt
   go_wp2_with (first
    | (go_at_call 112;go_must (refine (of_at (fun k=>G≤k∧k<w3.heap.size) (some ⟨G,0,none⟩) nv nv fs3 HL3.out (fun f hf=>(HFS.out f hf).1) (by omega) l (good_of_sound HS.out) A c _ (LvS.all (HIN.out.stay HB3.out)) (HI3.out.nfs.mono fun k hk hz=>⟨by rcases hk with rfl | hk <;> omega,hz⟩) (fun k hk=>hk.2)).mono ?_;rintro e w4 ⟨A2,n2,c2,rfl,hcap2,hi2,hb⟩;have HI4:=Ak hi2;have HCAP4:=Ak hcap2;have HB4:=Ak (below_then HB3.out HB3.out.size hb);have HY4:=Ak (blk_below HY3.out hb);clear hb hi2 hcap2))
    | (go_at_call 113;go_must (refine (short_calls (fun _=>True) A2 n2 c2 (ofP fs3 l).1 (ofP fs3 l).2 _ (HI4.out.mono fun _ _ _=>trivial) HCAP4.out).mono ?_;obtain ⟨f,hf⟩:∃ f,f=shortN ((ofP fs3 l).1,(ofP fs3 l).2):=⟨_,rfl⟩;rw [← hf];have HF:=Ak hf;rintro e w5 ⟨A3,n3,c3,rfl,hcap3,hi3,hb⟩;have HI5:=Ak hi3.1;have HN5:=Ak hi3.1.1;have HB5:=Ak (below_then HB4.out HB4.out.size hb);have HY5:=Ak (blk_below HY4.out hb);clear hb hi3 hcap3 hf))
    | (go_at_call 114;go_must (refine (level_calls A3 n3 c3 f.1 f.2 _ HI5.out (by rw [HF.out];exact HSO.out) (by rw [← HN5.out,HF.out];exact HSL.out) (by rw [HF.out];exact HNE.out)).mono ?_;obtain ⟨x,hx⟩:∃ x,x=lvlN (f.1,f.2):=⟨_,rfl⟩;rw [← hx];have HXE:=Ak (show instL vs l=x by rw [HIE.out,hx,HF.out,← HOF.out]);rintro e w6 ⟨A4,c4,rfl,hl4,hb⟩;have HL6:=Ak hl4;have HZ6:=Ak HB5.out.size;have HB6:=Ak (below_then HB5.out HB5.out.size hb);have HY6:=Ak (blk_below HY5.out hb);have HYL:=Ak (blk_lt HY5.out);obtain ⟨q0,q1,q2,z0,z1,z2⟩:=row3 HY6.out;clear hb hl4 hx;simp only [lvV])))
   refine bodyPost_ret (results_c rfl _ _ (w.heap.size+1+1) 25 #[.int .i64 x.kind,.int .i64 x.num,.slice A4 x.kids.length c4] (0,0) _ rfl (set3 HY6.out) Try.underlying25 rfl (by kernel_rfl)) rfl ?_
   have hch:=chg_set3 w6 (w.heap.size+1+1) (.int .i64 x.kind) (.int .i64 x.num) (.slice A4 x.kids.length c4)
   have hyl:=HYL.out
   have hz6:=HZ6.out
   rw [HXE.out]
   exact ⟨A4,c4,rfl,(HL6.out.same fun b hb hz=>hch.block b hz (by rcases hb with hb | hb;exact hb.elim;omega)).mono fun b hb _=>hb.elim .inl fun h=>.inr (Nat.le_trans hz6 h),Chg.trans_below HB6.out hch (fun _ e=>by omega) HB6.out.size⟩
  ·have HE:=Ak (show instL vs l=.mk 0 0 [] by unfold instL;rw [if_neg (by rw [← HN.out,hes];simp [he])])
   have he':(e3 != 0)=true:=by simp [he]
   clear hes he
   go_upto_region 6 with (first
    | (go_at_call 110;go_must (refine (walk_inst vs Av nv cv (w.heap.size+1) (G+1) G _ l (Nat.lt_succ_self _) (good_of_sound HS.out) A c 1 _ _ (LvIn.mono (HIN.out.stay HB2.out) (by omega)) HK2.out HI2.out (by simp)).mono ?_;rintro e w3 ⟨rfl,hi3,hc3⟩;rw [HV3.out] at hi3 ⊢;have HB3:=Ak (Chg.trans_below HB2.out hc3 (fun _ e=>by have:=HGZ.out;omega) HB2.out.size);have HY3:=Ak ((hc3.block _ (blk_lt HY2.out) (by have:=HGZ.out;omega)).trans HY2.out);obtain ⟨z0,z1,z2,q0,q1,q2⟩:=row3 HY3.out;clear hi3 hc3)))
   go_wp2
   refine bodyPost_ret (results_c rfl _ _ (w.heap.size+1+1) 25 #[.int .i64 0,.int .i64 0,.slice none 0 0] (0,0) _ rfl (set3 HY3.out) Try.underlying25 rfl (by kernel_rfl)) rfl ?_
   rw [HE.out]
   exact zero_got _ _ (Chg.trans_below HB3.out (chg_set3 _ _ _ _ _) (fun _ e=>by omega) HB3.out.size)
end Go.Proofs.Ytdboloabpjmgaaa

namespace Go.Proofs.Ytdboloabpjmgaaa
open Go.RowKit Go.IntWalk Go.Proofs.YtdboloabpjmgaaaW.PrintWords Go.RegionInvYtdboloabpjmgaaa Go.RegionEYtdboloabpjmgaaa

theorem ReadsInt.still {w w':World} {k:IntKind} {A:Option Addr} {n:Nat} {ks:List Int} (h:ReadsInt w k A n ks) (hs:∀ b,b<w.heap.size→w'.heap[b]?=w.heap[b]?):ReadsInt w' k A n ks:=by
 refine ⟨h.1,h.2.1,fun hn=>?_⟩
 obtain ⟨ad,e,hc⟩:=h.2.2 hn
 refine ⟨ad,e,fun j hj=>?_⟩
 have hx:=hc j hj
 exact (cell_same (w:=w) (w':=w') (hs _ (World.block_lt_of_cell? w _ hx))).trans hx
end Go.Proofs.Ytdboloabpjmgaaa

namespace Go.Proofs.Ytdboloabpjmgaaa
open Go.RowKit Go.Proofs.YtdboloabpjmgaaaW.PrintWords Go.RegionInvYtdboloabpjmgaaa Go.RegionEYtdboloabpjmgaaa

theorem least_iff {f:Nf} (hf:NfOk f) {b:Int}:leastN f≤b↔f.1≤b∧∀ j:Nat,atP f.2 j≤b:=by
 have h0:=hf.1
 have hge:=least_ge f
 exact ⟨fun h=>⟨by omega,fun j=>by have:=least_at (f:=f) j (by omega);omega⟩,fun h=>least_le h.1 h.2⟩
theorem least_in {f:Nf} (hf:NfOk f):0≤leastN f∧leastN f≤1099511627776:=by
 have hge:=least_ge f
 have h0:=hf.1
 exact ⟨by omega,least_le hf.2.1 fun j=>(atP_ok hf.2.2.1 j).2⟩
theorem atP_in2 {f:Nf} (hf:NfOk f) (j:Nat):-1≤atP f.2 j∧atP f.2 j≤1099511627776:=atP_ok hf.2.2.1 j
theorem least_plus {f:Nf} (hf:NfOk f) {k:Int} (hk:0≤k) (hk1:k≤1099511627776) {b:Int}:leastN (plusN k f)≤b↔min 1099511627776 (leastN f+k)≤b:=by
 have hp:=plusN_ok hf hk hk1
 have h0:=hf.1
 have h1:=hf.2.1
 have hl:=least_in hf
 rw [least_iff hp,plus_fst]
 by_cases hb:1099511627776≤b
 ·exact ⟨fun _=>by omega,fun _=>⟨by omega,fun j=>by have:=atP_in2 hp j;omega⟩⟩
 ·constructor
  ·rintro ⟨h2,h3⟩
   have:leastN f≤b - k:=(least_iff hf).2 ⟨by omega,fun j=>by
    have h4:=h3 j
    have h5:=atP_in2 hf j
    rw [atP_plus] at h4
    unfold addN at h4
    split at h4 <;> omega⟩
   omega
  ·intro h
   have h2:=(least_iff hf (b:=b - k)).1 (by omega)
   refine ⟨by omega,fun j=>?_⟩
   have h4:=h2.2 j
   have h5:=atP_in2 hf j
   rw [atP_plus]
   unfold addN
   split <;> omega
theorem least_or {f g:Nf} (hf:NfOk f) (hg:NfOk g) {b:Int}:leastN (orN f g)≤b↔leastN f≤b∧leastN g≤b:=by
 rw [least_iff (orN_ok hf hg),least_iff hf,least_iff hg,or_fst]
 constructor
 ·rintro ⟨h1,h2⟩
  exact ⟨⟨by omega,fun j=>by have:=h2 j;rw [atP_or] at this;omega⟩,⟨by omega,fun j=>by have:=h2 j;rw [atP_or] at this;omega⟩⟩
 ·rintro ⟨⟨h1,h2⟩,h3,h4⟩
  exact ⟨by omega,fun j=>by rw [atP_or];have:=h2 j;have:=h4 j;omega⟩
def plusR (n:Int) (f:Nf):Nf:=(if f.2=[]∨0<f.1 then min 1099511627776 (f.1+n) else f.1,f.2.map (addN n))
theorem plusR_ok {n:Int} {f:Nf} (h:NfOk f) (h0:0≤n) (h1:n≤1099511627776):NfOk (plusR n f):=by
 have hp:=plusN_ok h h0 h1
 refine ⟨?_,?_,hp.2.2.1,hp.2.2.2⟩
 ·unfold plusR;simp only [];have:=h.1;split <;> omega
 ·unfold plusR;simp only [];have:=h.2.1;split <;> omega
theorem eqR_short {f:Nf} (hf:NfOk f):eqR (shortN f) f:=⟨atP_short hf,least_short hf⟩
theorem eqR_or {f f' g g':Nf} (hf:NfOk f) (hf':NfOk f') (hg:NfOk g) (hg':NfOk g') (h1:eqR f f') (h2:eqR g g'):eqR (orN f g) (orN f' g'):=
 ⟨fun j=>by rw [atP_or,atP_or,h1.1,h2.1],le_ext fun b=>by rw [least_or hf hg,least_or hf' hg',h1.2,h2.2]⟩
theorem eqR_plus {f f':Nf} {n:Int} (hf:NfOk f) (hf':NfOk f') (h0:0≤n) (h1:n≤1099511627776) (h:eqR f f'):eqR (plusN n f) (plusN n f'):=
 ⟨fun j=>by rw [atP_plus,atP_plus,h.1],le_ext fun b=>by rw [least_plus hf h0 h1,least_plus hf' h0 h1,h.2]⟩
theorem short_last {f:Nf} (h:(shortN f).2≠[]):0≤rd (shortN f).2 (((shortN f).2.length - 1:Nat):Int):=by
 have hle:=trim_le f.2 f.2.length
 have hl:(shortN f).2.length=trimTo f.2 f.2.length:=by simp [shortN];omega
 have hp:0<trimTo f.2 f.2.length:=by
  rcases Nat.eq_zero_or_pos (trimTo f.2 f.2.length) with h0 | h0
  ·exact absurd (List.eq_nil_of_length_eq_zero (by omega)) h
  ·exact h0
 have h1:=trim_last f.2 f.2.length hp
 rw [hl]
 have e:(shortN f).2=f.2.take (trimTo f.2 f.2.length):=rfl
 rw [e,rd_nat',List.getD_eq_getElem?_getD,List.getElem?_take,if_pos (by omega),← List.getD_eq_getElem?_getD,← rd_nat']
 exact h1
theorem eqR_plusR {f:Nf} {n:Int} (hf:NfOk f) (h0:0≤n) (h1:n≤1099511627776):eqR (plusR n (shortN f)) (plusN n (shortN f)):=by
 have hs:=short_ok hf
 have hp:=plusN_ok hs h0 h1
 have hr:=plusR_ok hs h0 h1
 have ha:∀ j:Nat,atP (plusR n (shortN f)).2 j=atP (plusN n (shortN f)).2 j:=fun j=>rfl
 refine ⟨ha,?_⟩
 by_cases hc:(shortN f).2=[]∨0<(shortN f).1
 ·have:plusR n (shortN f)=plusN n (shortN f):=by unfold plusR plusN;rw [if_pos hc]
  rw [this]
 ·have hc1:(shortN f).2≠[]:=fun e=>hc (.inl e)
  have hc2:(shortN f).1=0:=by have:=hs.1;have:¬ 0<(shortN f).1:=fun e=>hc (.inr e);omega
  have hl:=short_last hc1
  have hlen:0<(shortN f).2.length:=List.length_pos_iff.2 hc1
  have hat:atP (shortN f).2 (((shortN f).2.length - 1:Nat):Int)=rd (shortN f).2 (((shortN f).2.length - 1:Nat):Int):=atP_lt (by omega)
  apply le_ext
  intro b
  rw [least_iff hr,least_iff hp]
  have e1:(plusR n (shortN f)).1=0:=by unfold plusR;simp only [];rw [if_neg hc,hc2]
  rw [e1,plus_fst,hc2]
  constructor
  ·rintro ⟨h2,h3⟩
   refine ⟨?_,h3⟩
   have h4:=h3 ((shortN f).2.length - 1)
   rw [ha,atP_plus,hat] at h4
   unfold addN at h4
   rw [if_pos hl] at h4
   omega
  ·rintro ⟨h2,h3⟩
   exact ⟨by omega,h3⟩
theorem short_plus {f:Nf} {n:Int} (hf:NfOk f) (h0:0≤n) (h1:n≤1099511627776):shortN (plusR n (shortN f))=shortN (plusN n f):=by
 have hs:=short_ok hf
 have e1:=eqR_plusR hf h0 h1
 have e2:=eqR_plus hs hf h0 h1 (eqR_short hf)
 exact (short_eq (plusR_ok hs h0 h1) (plusN_ok hf h0 h1)).2 ⟨fun j=>(e1.1 j).trans (e2.1 j),e1.2.trans e2.2⟩
theorem short_or {f g:Nf} (hf:NfOk f) (hg:NfOk g):shortN (orN (shortN f) (shortN g))=shortN (orN f g):=
 (short_eq (orN_ok (short_ok hf) (short_ok hg)) (orN_ok hf hg)).2 (eqR_or (short_ok hf) hf (short_ok hg) hg (eqR_short hf) (eqR_short hg))
theorem short_num (n:Int):shortN (n,[])=(n,[]):=by unfold shortN;simp [trimTo]
theorem short_var (i:Nat):shortN (0,List.replicate i (-1) ++ [0])=(0,List.replicate i (-1) ++ [0]):=by
 have hr:rd (List.replicate i (-1) ++ [0]:List Int) (i:Nat)=0:=by rw [rd_nat',List.getD_eq_getElem?_getD,List.getElem?_append_right (by simp)];simp
 have ht:trimTo (List.replicate i (-1) ++ [0]:List Int) (List.replicate i (-1) ++ [0]:List Int).length=i+1:=by
  rw [List.length_append,List.length_replicate,List.length_singleton,trimTo,hr];rfl
 unfold shortN
 simp only [ht]
 rw [List.take_of_length_le (by simp)]
 congr 1
 split <;> rfl
def vlv (vs:List Lv) (i:Nat):Lv:=if i<vs.length then lvAt vs i else .mk 2 i []
def accN (c:Int) (K:List Int) (vs:List Lv):Nat→Nf
 | 0=>(c,[])
 | i+1=>if rd K (i:Nat)<0 then accN c K vs i else orN (accN c K vs i) (plusN (rd K (i:Nat)) (sumP (vlv vs i)))
theorem varN_vlv (vs:List Lv) (i:Nat):varN (vs.map sumP) i=sumP (vlv vs i):=by
 unfold vlv varN
 by_cases h:i<vs.length
 ·rw [if_pos h,if_pos (by simpa using h),Int.toNat_natCast,List.getD_eq_getElem?_getD,List.getElem?_map,List.getElem?_eq_getElem h]
  have:lvAt vs i=vs[i]:=lvAt_get (List.getElem?_eq_getElem h)
  rw [this];rfl
 ·rw [if_neg h,if_neg (by simpa using h),Int.toNat_natCast]
  exact (var_sum i).symm
theorem acc_ok {c:Int} {K:List Int} {vs:List Lv} (hc:0≤c∧c≤1099511627776) (hK:∀ x∈K,-1≤x∧x≤1099511627776):∀ n:Nat,n≤K.length→(∀ i<n,0≤rd K (i:Nat)→NfL (sumP (vlv vs i))) →
  NfL (accN c K vs n):=by
 intro n
 induction n with
 | zero=>intro _ _;exact ⟨⟨hc.1,hc.2,fun x hx=>by simp [accN] at hx,by simp [accN]⟩,by simp [accN]⟩
 | succ n ih =>
  intro hn hv
  have h:=ih (by omega) fun i hi=>hv i (by omega)
  rw [accN]
  split
  ·exact h
  ·rename_i h0
   have hs:=hv n (by omega) (by omega)
   have hm:rd K (n:Nat)∈K:=by rw [rd_nat',List.getD_eq_getElem?_getD,List.getElem?_eq_getElem (by omega)];exact List.getElem_mem _
   refine ⟨orN_ok h.1 (plusN_ok hs.1 (by omega) (hK _ hm).2),?_⟩
   rw [or_len]
   have h1:=h.2
   have h2:(plusN (rd K (n:Nat)) (sumP (vlv vs n))).2.length=(sumP (vlv vs n)).2.length:=by simp [plusN]
   have h3:=hs.2
   omega
theorem acc_at {c:Int} {K:List Int} {vs:List Lv} {j:Nat} {b:Int} (hb:-1≤b) (n:Nat) :
  atP (accN c K vs n).2 j≤b↔∀ i:Nat,i<n→0≤rd K (i:Nat)→addN (rd K (i:Nat)) (atP (sumP (vlv vs i)).2 j)≤b:=by
 induction n with
 | zero=>exact ⟨fun _ i hi=>by omega,fun _=>by show atP [] _≤b;rw [atP_beyond (by simp)];exact hb⟩
 | succ n ih =>
  rw [accN]
  split
  ·rename_i h0
   rw [ih]
   exact ⟨fun h i hi hk=>by rcases Nat.lt_succ_iff_lt_or_eq.1 hi with h' | rfl;exact h i h' hk;omega,fun h i hi=>h i (by omega)⟩
  ·rename_i h0
   rw [atP_or,atP_plus]
   constructor
   ·intro h i hi hk
    rcases Nat.lt_succ_iff_lt_or_eq.1 hi with h' | rfl
    ·exact (ih.1 (by omega)) i h' hk
    ·omega
   ·intro h
    have h1:=ih.2 fun i hi=>h i (by omega)
    have h2:=h n (by omega) (by omega)
    omega
theorem acc_least {c:Int} {K:List Int} {vs:List Lv} {b:Int} (hc:0≤c∧c≤1099511627776) (hK:∀ x∈K,-1≤x∧x≤1099511627776):∀ n:Nat,n≤K.length→(∀ i<n,0≤rd K (i:Nat)→NfL (sumP (vlv vs i))) →
  (leastN (accN c K vs n)≤b↔c≤b∧∀ i:Nat,i<n→0≤rd K (i:Nat)→min 1099511627776 (leastN (sumP (vlv vs i))+rd K (i:Nat))≤b):=by
 intro n
 induction n with
 | zero=>intro _ _;exact ⟨fun h=>⟨h,fun i hi=>by omega⟩,fun h=>h.1⟩
 | succ n ih =>
  intro hn hv
  have hi:=ih (by omega) fun i hi=>hv i (by omega)
  have hok:=acc_ok (c:=c) hc hK n (by omega) fun i hi=>hv i (by omega)
  rw [accN]
  split
  ·rename_i h0
   rw [hi]
   exact ⟨fun h=>⟨h.1,fun i hi hk=>by rcases Nat.lt_succ_iff_lt_or_eq.1 hi with h' | rfl;exact h.2 i h' hk;omega⟩,fun h=>⟨h.1,fun i hi=>h.2 i (by omega)⟩⟩
  ·rename_i h0
   have hs:=hv n (by omega) (by omega)
   have hm:rd K (n:Nat)∈K:=by rw [rd_nat',List.getD_eq_getElem?_getD,List.getElem?_eq_getElem (by omega)];exact List.getElem_mem _
   rw [least_or hok.1 (plusN_ok hs.1 (by omega) (hK _ hm).2),least_plus hs.1 (by omega) (hK _ hm).2,hi]
   constructor
   ·rintro ⟨⟨h1,h2⟩,h3⟩
    exact ⟨h1,fun i hi hk=>by rcases Nat.lt_succ_iff_lt_or_eq.1 hi with h' | rfl;exact h2 i h' hk;exact h3⟩
   ·rintro ⟨h1,h2⟩
    exact ⟨⟨h1,fun i hi=>h2 i (by omega)⟩,h2 n (by omega) (by omega)⟩
theorem subst_sum (fs:List Nf) {l:Lv} (h:Good l):(∀ i:Nat,0≤atP (sumP l).2 i→NfOk (varN fs i))→NfOk (ofP fs l) ∧
  (∀ (j:Nat) (b:Int),-1≤b→(atP (ofP fs l).2 j≤b↔∀ i:Nat,0≤atP (sumP l).2 i→addN (atP (sumP l).2 i) (atP (varN fs i).2 j)≤b)) ∧
  (∀ b:Int,leastN (ofP fs l)≤b↔(sumP l).1≤b∧∀ i:Nat,0≤atP (sumP l).2 i→min 1099511627776 (leastN (varN fs i)+atP (sumP l).2 i)≤b):=by
 induction h with
 | @mk k n ks h hk ih =>
  intro hv
  rcases good_cases (.mk h hk) with ⟨rfl,rfl,h0,h1⟩ | ⟨rfl,rfl,h0,h1⟩ | ⟨rfl,x,rfl,h0,h1,hx⟩ | ⟨rfl,x,y,rfl,hgx,hgy⟩
  ·rw [num_sum] at hv ⊢
   rw [ofP_num]
   have hno:∀ i:Nat,¬ 0≤atP (n,([]:List Int)).2 i:=fun i=>by rw [atP_beyond (by simp)];omega
   refine ⟨⟨h0,h1,fun x hx=>by simp at hx,by simp⟩,fun j b hb=>⟨fun _ i hi=>absurd hi (hno i),fun _=>by rw [atP_beyond (by simp)];exact hb⟩,fun b=>⟨fun h=>⟨h,fun i hi=>absurd hi (hno i)⟩,fun h=>h.1⟩⟩
  ·obtain ⟨i,rfl⟩:=Int.eq_ofNat_of_zero_le h0
   have hs:sumP (.mk 2 (i:Int) [])=(0,List.replicate i (-1) ++ [0]):=var_sum i
   rw [hs] at hv ⊢
   rw [ofP_var]
   simp only [atP_varN] at hv ⊢
   have hok:=hv i (by rw [if_pos rfl];omega)
   have hl:=least_in hok
   refine ⟨hok,fun j b hb=>⟨fun h i' hi'=>?_,fun h=>?_⟩,fun b=>⟨fun h=>⟨by omega,fun i' hi'=>?_⟩,fun h=>?_⟩⟩
   ·split at hi'
    ·rename_i e;subst e
     rw [if_pos rfl]
     have:=atP_in2 hok j
     unfold addN;split <;> omega
    ·omega
   ·have h2:=h i (by rw [if_pos rfl];omega)
    rw [if_pos rfl] at h2
    have:=atP_in2 hok j
    unfold addN at h2;split at h2 <;> omega
   ·split at hi'
    ·rename_i e;subst e
     rw [if_pos rfl];omega
    ·omega
   ·have h2:=h.2 i (by rw [if_pos rfl];omega)
    rw [if_pos rfl] at h2
    omega
  ·have hsx:sumP (.mk 3 n [x])=plusN n (sumP x):=by show ofP [] _=_;rw [ofP_succ];rfl
   have hsok:NfOk (sumP x):=ofP_ok (fun _ h=>by cases h) hx
   rw [hsx] at hv ⊢
   simp only [atP_plus] at hv ⊢
   have hpos:∀ i:Nat,0≤addN n (atP (sumP x).2 i)↔0≤atP (sumP x).2 i:=fun i=>by unfold addN;split <;> omega
   simp only [hpos] at hv ⊢
   obtain ⟨hok,hA,hL⟩:=ih x (by simp) hv
   rw [ofP_succ]
   have hp:=plusN_ok hok (show 0≤n by omega) h1
   refine ⟨hp,fun j b hb=>?_,fun b=>?_⟩
   ·rw [atP_plus]
    have hy:=atP_in2 hok j
    by_cases hbt:1099511627776≤b
    ·exact ⟨fun _ i hi=>by have:=atP_in2 (hv i hi) j;have:=atP_in2 hsok i;unfold addN;split <;> omega,fun _=>by unfold addN;split <;> omega⟩
    ·have h2:=hA j (max (-1) (b - n)) (by omega)
     have h3:addN n (atP (ofP fs x).2 j)≤b↔atP (ofP fs x).2 j≤max (-1) (b - n):=by unfold addN;split <;> omega
     rw [h3,h2]
     refine forall_congr' fun i=>forall_congr' fun hi=>?_
     have:=atP_in2 (hv i hi) j
     have:=atP_in2 hsok i
     have e:addN n (atP (sumP x).2 i)=min 1099511627776 (atP (sumP x).2 i+n):=by unfold addN;rw [if_pos hi]
     rw [e]
     unfold addN
     split <;> omega
   ·rw [least_plus hok (by omega) h1,plus_fst]
    have hl:=least_in hok
    by_cases hbt:1099511627776≤b
    ·exact ⟨fun _=>⟨by omega,fun i hi=>by omega⟩,fun _=>by omega⟩
    ·have h3:min 1099511627776 (leastN (ofP fs x)+n)≤b↔leastN (ofP fs x)≤b - n:=by omega
     rw [h3,hL]
     refine and_congr (by omega) (forall_congr' fun i=>forall_congr' fun hi=>?_)
     have:=least_in (hv i hi)
     have:=atP_in2 hsok i
     have e:addN n (atP (sumP x).2 i)=min 1099511627776 (atP (sumP x).2 i+n):=by unfold addN;rw [if_pos hi]
     rw [e]
     omega
  ·have hsx:sumP (.mk 4 n [x,y])=orN (sumP x) (sumP y):=by show ofP [] _=_;rw [ofP_max];rfl
   rw [hsx] at hv ⊢
   simp only [atP_or] at hv ⊢
   obtain ⟨hokx,hAx,hLx⟩:=ih x (by simp) fun i hi=>hv i (by omega)
   obtain ⟨hoky,hAy,hLy⟩:=ih y (by simp) fun i hi=>hv i (by omega)
   rw [ofP_max]
   refine ⟨orN_ok hokx hoky,fun j b hb=>?_,fun b=>?_⟩
   ·have h3:atP (orN (ofP fs x) (ofP fs y)).2 j≤b↔atP (ofP fs x).2 j≤b∧atP (ofP fs y).2 j≤b:=by rw [atP_or];omega
    rw [h3,hAx j b hb,hAy j b hb]
    constructor
    ·rintro ⟨h1,h2⟩ i hi
     have g1:=h1 i
     have g2:=h2 i
     have:=atP_in2 (hv i hi) j
     unfold addN at g1 g2 ⊢
     split at g1 <;> split at g2 <;> split <;> omega
    ·intro h1
     refine ⟨fun i hi=>?_,fun i hi=>?_⟩
     ·have g:=h1 i (by omega)
      unfold addN at g ⊢
      split at g <;> split <;> omega
     ·have g:=h1 i (by omega)
      unfold addN at g ⊢
      split at g <;> split <;> omega
   ·rw [least_or hokx hoky,hLx,hLy,or_fst]
    constructor
    ·rintro ⟨⟨h1,h2⟩,h3,h4⟩
     refine ⟨by omega,fun i hi=>?_⟩
     have g1:=h2 i
     have g2:=h4 i
     omega
    ·rintro ⟨h1,h2⟩
     refine ⟨⟨by omega,fun i hi=>?_⟩,by omega,fun i hi=>?_⟩
     ·have g:=h2 i (by omega);omega
     ·have g:=h2 i (by omega);omega
theorem acc_eq {vs:List Lv} {l:Lv} (hg:Good l) (hv:∀ i:Nat,0≤atP (sumP l).2 i→NfL (sumP (vlv vs i))) :
  shortN (accN (shortN (sumP l)).1 (shortN (sumP l)).2 vs (shortN (sumP l)).2.length)=shortN (ofP (vs.map sumP) l):=by
 have hok:NfOk (sumP l):=ofP_ok (fun _ h=>by cases h) hg
 have hs:=short_ok hok
 have hv':∀ i:Nat,0≤atP (sumP l).2 i→NfOk (varN (vs.map sumP) i):=fun i hi=>by rw [varN_vlv];exact (hv i hi).1
 obtain ⟨ho,hA,hL⟩:=subst_sum (vs.map sumP) hg hv'
 have hvK:∀ i<(shortN (sumP l)).2.length,0≤rd (shortN (sumP l)).2 (i:Nat)→NfL (sumP (vlv vs i)):=fun i hi h0=>hv i (by rw [← atP_short hok,atP_lt hi];exact h0)
 have hacc:=acc_ok (vs:=vs) (c:=(shortN (sumP l)).1) ⟨hs.1,hs.2.1⟩ hs.2.2.1 _ (Nat.le_refl _) hvK
 refine (short_eq hacc.1 ho).2 ⟨fun j=>le_ext fun b=>?_,le_ext fun b=>?_⟩
 ·by_cases hb:-1≤b
  ·rw [acc_at hb,hA j b hb]
   simp only [varN_vlv]
   constructor
   ·intro h i hi
    rw [← atP_short hok] at hi ⊢
    by_cases hlt:i<(shortN (sumP l)).2.length
    ·rw [atP_lt hlt] at hi ⊢;exact h i hlt hi
    ·rw [atP_beyond (by omega)] at hi;omega
   ·intro h i hi h0
    have g:=h i
    rw [← atP_short hok,atP_lt hi] at g
    exact g h0
  ·have h1:=atP_in2 hacc.1 j
   have h2:=atP_in2 ho j
   exact ⟨fun h=>by omega,fun h=>by omega⟩
 ·rw [acc_least ⟨hs.1,hs.2.1⟩ hs.2.2.1 _ (Nat.le_refl _) hvK,hL b]
  simp only [varN_vlv]
  have hall:(∀ i:Nat,i<(shortN (sumP l)).2.length→0≤rd (shortN (sumP l)).2 (i:Nat)→min 1099511627776 (leastN (sumP (vlv vs i))+rd (shortN (sumP l)).2 (i:Nat))≤b) ↔
    ∀ i:Nat,0≤atP (sumP l).2 i→min 1099511627776 (leastN (sumP (vlv vs i))+atP (sumP l).2 i)≤b:=by
   constructor
   ·intro h i hi
    rw [← atP_short hok] at hi ⊢
    by_cases hlt:i<(shortN (sumP l)).2.length
    ·rw [atP_lt hlt] at hi ⊢;exact h i hlt hi
    ·rw [atP_beyond (by omega)] at hi;omega
   ·intro h i hi h0
    have g:=h i
    rw [← atP_short hok,atP_lt hi] at g
    exact g h0
  rw [hall]
  have h0:=hok.1
  rw [short_fst]
  split
  ·rename_i hz
   constructor
   ·rintro ⟨h1,h2⟩
    refine ⟨?_,h2⟩
    obtain ⟨j,hj,hjm⟩:=List.getElem_of_mem (maxL_mem hz.1)
    have e:atP (sumP l).2 j=maxL (sumP l).2:=by rw [atP_get hj,hjm]
    have g:=h2 j (by rw [e];have:=hz.2;omega)
    have:=least_in (hv j (by rw [e];have:=hz.2;omega)).1
    have:=atP_in2 hok j
    have:=hz.2
    omega
   ·rintro ⟨h1,h2⟩
    exact ⟨by omega,h2⟩
  ·exact Iff.rfl
theorem inst_iff (vs:List Lv) {l:Lv} (h:Good l):∀ fs:List Nf,(instP vs l fs).1=0↔∀ i:Nat,i<vs.length→0≤atP (sumP l).2 i→soundB (lvAt vs i)=true:=by
 induction h with
 | @mk k n ks h hk ih =>
  intro fs
  rcases good_cases (.mk h hk) with ⟨rfl,rfl,h0,h1⟩ | ⟨rfl,rfl,h0,h1⟩ | ⟨rfl,x,rfl,h0,h1,hx⟩ | ⟨rfl,x,y,rfl,hgx,hgy⟩
  ·have hF:(insvF vs 1 n fs).1=0:=by unfold insvF;rw [if_neg (fun h=>absurd h.1 (by decide))]
   rw [instP_go hF,instKs_nil,num_sum]
   exact ⟨fun _ i _ hi=>by rw [atP_beyond (by simp)] at hi;omega,fun _=>rfl⟩
  ·obtain ⟨i,rfl⟩:=Int.eq_ofNat_of_zero_le h0
   have hs:sumP (.mk 2 (i:Int) [])=(0,List.replicate i (-1) ++ [0]):=var_sum i
   rw [hs]
   simp only [atP_varN]
   by_cases hi:i<vs.length
   ·cases hsd:soundB (lvAt vs i) with
    | true =>
     have hF:(insvF vs 2 (i:Int) fs).1=0:=by unfold insvF;rw [if_pos ⟨rfl,by omega⟩,if_pos hsd]
     rw [instP_go hF,instKs_nil]
     exact ⟨fun _ j _ hj=>by split at hj;rename_i e;subst e;exact hsd;omega,fun _=>rfl⟩
    | false =>
     have hF:(insvF vs 2 (i:Int) fs).1=1:=by unfold insvF;rw [if_pos ⟨rfl,by omega⟩,if_neg (by rw [hsd];decide)]
     rw [instP_stop (by rw [hF];decide),hF]
     exact ⟨fun h=>absurd h (by decide),fun h=>by have:=h i hi (by rw [if_pos rfl];omega);rw [hsd] at this;cases this⟩
   ·have hF:(insvF vs 2 (i:Int) fs).1=0:=by unfold insvF;rw [if_neg (fun h=>hi (by omega))]
    rw [instP_go hF,instKs_nil]
    exact ⟨fun _ j hj1 hj=>by split at hj;rename_i e;omega;omega,fun _=>rfl⟩
  ·have hsx:sumP (.mk 3 n [x])=plusN n (sumP x):=by show ofP [] _=_;rw [ofP_succ];rfl
   have hF:(insvF vs 3 n fs).1=0:=by unfold insvF;rw [if_neg (fun h=>absurd h.1 (by decide))]
   rw [instP_go hF,hsx]
   have hpos:∀ i:Nat,0≤addN n (atP (sumP x).2 i)↔0≤atP (sumP x).2 i:=fun i=>by unfold addN;split <;> omega
   simp only [atP_plus,hpos]
   have hi:=ih x (by simp) (insvF vs 3 n fs).2
   by_cases hx0:(instP vs x (insvF vs 3 n fs).2).1=0
   ·rw [instKs_go hx0,instKs_nil]
    exact ⟨fun _=>hi.1 hx0,fun _=>rfl⟩
   ·rw [instKs_stop hx0]
    exact hi
  ·have hsx:sumP (.mk 4 n [x,y])=orN (sumP x) (sumP y):=by show ofP [] _=_;rw [ofP_max];rfl
   have hF:(insvF vs 4 n fs).1=0:=by unfold insvF;rw [if_neg (fun h=>absurd h.1 (by decide))]
   rw [instP_go hF,hsx]
   have hix:=ih x (by simp) (insvF vs 4 n fs).2
   by_cases hx0:(instP vs x (insvF vs 4 n fs).2).1=0
   ·rw [instKs_go hx0]
    have hiy:=ih y (by simp) (instP vs x (insvF vs 4 n fs).2).2
    have hxx:=hix.1 hx0
    by_cases hy0:(instP vs y (instP vs x (insvF vs 4 n fs).2).2).1=0
    ·rw [instKs_go hy0,instKs_nil]
     have hyy:=hiy.1 hy0
     exact ⟨fun _ i hi hp=>by rw [atP_or] at hp;by_cases hpx:0≤atP (sumP x).2 i;exact hxx i hi hpx;exact hyy i hi (by omega),fun _=>rfl⟩
    ·rw [instKs_stop hy0]
     exact ⟨fun h=>absurd h hy0,fun h=>absurd (hiy.2 fun i hi hp=>h i hi (by rw [atP_or];omega)) hy0⟩
   ·rw [instKs_stop hx0]
    exact ⟨fun h=>absurd h hx0,fun h=>absurd (hix.2 fun i hi hp=>h i hi (by rw [atP_or];omega)) hx0⟩
end Go.Proofs.Ytdboloabpjmgaaa

namespace Go.Proofs.Ytdboloabpjmgaaa
open Go.RowKit Go.Proofs.YtdboloabpjmgaaaW.PrintWords Go.RegionInvYtdboloabpjmgaaa Go.RegionEYtdboloabpjmgaaa

def tdC (c:Int) (ks:List Int):Int:=ks.foldl (fun c k=>if c≤k then 0 else c) c
theorem tdC_zero (ks:List Int):tdC 0 ks=0:=by
 unfold tdC
 induction ks with
 | nil=>rfl
 | cons y r ih=>rw [List.foldl_cons];split <;> exact ih
theorem tdC_eq (c:Int) (ks:List Int):tdC c ks=if ∃ x∈ks,c≤x then 0 else c:=by
 induction ks with
 | nil=>rw [if_neg (by rintro ⟨x,hx,-⟩;cases hx)];rfl
 | cons y r ih =>
  have e:tdC c (y :: r)=tdC (if c≤y then 0 else c) r:=rfl
  rw [e]
  by_cases h:c≤y
  ·rw [if_pos h,tdC_zero,if_pos ⟨y,by simp,h⟩]
  ·rw [if_neg h,ih]
   by_cases h2:∃ x∈r,c≤x
   ·rw [if_pos h2,if_pos]
    obtain ⟨x,hx,h3⟩:=h2
    exact ⟨x,by simp [hx],h3⟩
   ·rw [if_neg h2,if_neg]
    rintro ⟨x,hx,h3⟩
    rcases List.mem_cons.1 hx with rfl | hx
    ·exact h h3
    ·exact h2 ⟨x,hx,h3⟩
theorem tdC_next {c:Int} {ks:List Int} {j:Nat} {y:Int} (hj:j<ks.length) (hy:y=rd ks (j:Nat)):tdC c (ks.take (j+1))=if tdC c (ks.take j)≤y then 0 else tdC c (ks.take j):=by
 rw [List.take_add_one,List.getElem?_eq_getElem hj]
 have:y=ks[j]:=by rw [hy,rd_nat',List.getD_eq_getElem?_getD,List.getElem?_eq_getElem hj];rfl
 subst this
 unfold tdC
 rw [List.foldl_append]
 rfl
theorem td_short {c:Int} {ks:List Int} (hc:0≤c):(tdC c (ks.take (trimTo ks ks.length)),ks.take (trimTo ks ks.length))=shortN (c,ks):=by
 unfold shortN
 simp only []
 congr 1
 rw [tdC_eq]
 have key:(∃ x∈ks.take (trimTo ks ks.length),c≤x)↔(ks≠[]∧c≤maxL ks):=by
  constructor
  ·rintro ⟨x,hx,h⟩
   have hm:=List.mem_of_mem_take hx
   exact ⟨(fun e=>by rw [e] at hm;cases hm),(by have:=maxL_ge x hm;omega)⟩
  ·rintro ⟨h1,h2⟩
   obtain ⟨j,hj,hjm⟩:=List.getElem_of_mem (maxL_mem h1)
   have hr:rd ks (j:Nat)=maxL ks:=by rw [rd_nat',List.getD_eq_getElem?_getD,List.getElem?_eq_getElem hj];exact hjm
   have hlt:j<trimTo ks ks.length:=by
    rcases Nat.lt_or_ge j (trimTo ks ks.length) with h | h
    ·exact h
    ·have:=trim_neg ks ks.length j h hj;omega
   refine ⟨maxL ks,?_,h2⟩
   rw [← hjm]
   exact List.mem_take_iff_getElem.2 ⟨j,by omega,rfl⟩
 by_cases h:ks≠[]∧c≤maxL ks
 ·rw [if_pos (key.2 h),if_pos h]
 ·rw [if_neg (fun h'=>h (key.1 h')),if_neg h]
set_option maxHeartbeats 4000000 in
theorem tidy_calls (S:Nat→Prop) (A:Option Addr) (n cap:Nat) (c:Int) (ks:List Int) (w:World) (hr:IntsS w S A n ks) (hcap:n≤cap) (hc0:0≤c) :
  Calls Try.prog 116 #[.agg #[.int .i64 c,.slice A n cap]] w (NfGot w S (shortN (c,ks))):=by
 have HR:=Ak hr
 have HN:=Ak hr.1.1
 have HC0:=Ak hc0
 clear hr hc0
 have hx1:=box0 w (.cells #[.int .i64 c,.slice A n cap] 86 (0,0)) (.cells #[.int .i64 0,.slice none 0 0] 86 (0,0))
 have hx2:=box1 w (.cells #[.int .i64 c,.slice A n cap] 86 (0,0)) (.cells #[.int .i64 0,.slice none 0 0] 86 (0,0))
 have hb2:Below w.heap.size w ((w.alloc (.cells #[.int .i64 c,.slice A n cap] 86 (0,0))).alloc (.cells #[.int .i64 0,.slice none 0 0] 86 (0,0))):=below_alloc (below_alloc (Below.refl _ _) _) _
 have HX1:=Ak hx1
 have HX2:=Ak hx2
 have HB2:=Ak hb2
 clear hx1 hx2 hb2
 go_enter Try.func116,Try.ntmps116
 go_upto_block 0 with (fail)
 obtain ⟨W,hW⟩:∃ W,W=((w.alloc (.cells #[.int .i64 c,.slice A n cap] 86 (0,0))).alloc (.cells #[.int .i64 0,.slice none 0 0] 86 (0,0))):=⟨_,rfl⟩
 rw [← hW] at HX1 HX2 HB2 ⊢
 clear hW
 have hn9:=HR.out.1.2.1
 go_cut [] (fun wr=>∃ (j:Nat),j≤n∧Aside0 (trimTo ks n=j)∧Aside0 (wr.heap[w.heap.size]?=some (.cells #[.int .i64 c,.slice A j cap] 86 (0,0)))∧Aside0 (wr.heap[w.heap.size+1]?=some (.cells #[.int .i64 0,.slice none 0 0] 86 (0,0)))∧Aside0 (Below w.heap.size w wr))
 case first =>
  go_wp2
  go_loopw [] (fun wr=>∃ (j:Nat),j≤n∧Aside0 (trimTo ks n=trimTo ks j)∧Aside0 (wr.heap[w.heap.size]?=some (.cells #[.int .i64 c,.slice A j cap] 86 (0,0)))∧Aside0 (wr.heap[w.heap.size+1]?=some (.cells #[.int .i64 0,.slice none 0 0] 86 (0,0)))∧Aside0 (Below w.heap.size w wr)) (fun wr=>lenAt wr w.heap.size)
  case atStart=>exact ⟨n,Nat.le_refl _,⟨rfl⟩,HX1,HX2,HB2⟩
  case round =>
   clear HX1 HX2 HB2
   obtain ⟨j,hj,HT,HX1,HX2,HB2⟩:=hrel
   obtain ⟨d0,d1,e0,e1⟩:=row2 HX1.out
   have HLA:=Ak (lenAt_eq HX1.out)
   by_cases hj0:0<j
   ·obtain ⟨ad,rfl,hc⟩:=(HR.out.later HB2.out).1.at_ ((j - 1:Nat):Int) (by omega) (by omega)
    rw [Int.toNat_natCast] at hc
    obtain ⟨y,hy⟩:∃ y,y=rd ks ((j - 1:Nat):Int):=⟨_,rfl⟩
    rw [← hy] at hc
    have HTT:=Ak (show trimTo ks j=(if y<0 then trimTo ks (j - 1) else j) by
     obtain ⟨i,rfl⟩:∃ i,j=i+1:=⟨j - 1,by omega⟩
     rw [trimTo,hy];rfl)
    clear hy
    by_cases hy0:y<0
    ·have HT':=Ak (show trimTo ks n=trimTo ks (j - 1) by rw [HT.out,HTT.out,if_pos hy0])
     go_wp2
     have hch:=chg_set wr w.heap.size 1 (.slice (some ad) (j - 1) cap)
     have hx1:=blk_put HX1.out 1 (.slice (some ad) (j - 1) cap) rfl
     have hm:=lenAt_eq hx1
     go_roundw
     case rel=>exact ⟨j - 1,by omega,HT',⟨hx1⟩,⟨(hch.block _ (blk_lt HX2.out) (by omega)).trans HX2.out⟩,⟨Chg.trans_below HB2.out hch (fun _ e=>by omega) HB2.out.size⟩⟩
     case measure=>rw [hm,HLA.out];omega
    ·have HT':=Ak (show trimTo ks n=j by rw [HT.out,HTT.out,if_neg hy0])
     go_wp2
     go_meet
     case rel=>exact ⟨j,hj,HT',HX1,HX2,HB2⟩
   ·obtain rfl:j=0:=by omega
    have HT':=Ak (show trimTo ks n=0 from HT.out)
    go_wp2
    go_meet
    case rel=>exact ⟨0,hj,HT',HX1,HX2,HB2⟩
 case rest =>
  clear HX1 HX2 HB2
  obtain ⟨j,hj,HT,HX1,HX2,HB2⟩:=hcut
  obtain ⟨d0,d1,e0,e1⟩:=row2 HX1.out
  go_upto_block 2 with (fail)
  go_cut [] (fun wr=>Aside0 (wr.heap[w.heap.size]?=some (.cells #[.int .i64 (tdC c (ks.take j)),.slice A j cap] 86 (0,0)))∧Aside0 (wr.heap[w.heap.size+1]?=some (.cells #[.int .i64 0,.slice none 0 0] 86 (0,0)))∧Aside0 (Below w.heap.size w wr))
  case first =>
   clear d0 d1 e0 e1
   go_wp2
   go_loopw [31] (fun i wr=>∃ (k:Nat) (c':Int),i=.int .i64 k∧k≤j∧Aside0 (c'=tdC c (ks.take k))∧Aside0 (wr.heap[w.heap.size]?=some (.cells #[.int .i64 c',.slice A j cap] 86 (0,0)))∧Aside0 (wr.heap[w.heap.size+1]?=some (.cells #[.int .i64 0,.slice none 0 0] 86 (0,0)))∧Aside0 (Below w.heap.size w wr)) (fun i _=>j - (intOf i).toNat)
   case atStart=>exact ⟨0,c,rfl,Nat.zero_le _,⟨rfl⟩,HX1,HX2,HB2⟩
   case round =>
    clear HX1 HX2 HB2
    obtain ⟨k,c',rfl,hk,HTD,HX1,HX2,HB2⟩:=hrel
    obtain ⟨d0,d1,e0,e1⟩:=row2 HX1.out
    by_cases hlt:k<j
    ·obtain ⟨ad,rfl,hc⟩:=(HR.out.later HB2.out).1.at_ (k:Int) (by omega) (by omega)
     rw [Int.toNat_natCast] at hc
     obtain ⟨y,hy⟩:∃ y,y=rd ks (k:Int):=⟨_,rfl⟩
     rw [← hy] at hc
     have HTN:=Ak (tdC_next (c:=c) (show k<ks.length by rw [HN.out];omega) hy)
     clear hy
     by_cases hcy:c'≤y
     ·have HT2:=Ak (show (0:Int)=tdC c (ks.take (k+1)) by rw [HTN.out,← HTD.out,if_pos hcy])
      go_wp2
      have hch:=chg_set wr w.heap.size 0 (.int .i64 0)
      have hx1:=blk_put HX1.out 0 (.int .i64 0) rfl
      go_roundw
      case rel=>exact ⟨k+1,0,by go_num,by omega,HT2,⟨hx1⟩,⟨(hch.block _ (blk_lt HX2.out) (by omega)).trans HX2.out⟩,⟨Chg.trans_below HB2.out hch (fun _ e=>by omega) HB2.out.size⟩⟩
      case measure=>(simp [intOf];try omega)
     ·have HT2:=Ak (show c'=tdC c (ks.take (k+1)) by rw [HTN.out,← HTD.out,if_neg hcy])
      go_wp2
      go_roundw
      case rel=>exact ⟨k+1,c',by go_num,by omega,HT2,HX1,HX2,HB2⟩
      case measure=>(simp [intOf];try omega)
    ·obtain rfl:k=j:=by omega
     have hlt':decide ((k:Int)<k)=false:=by simp
     go_wp2
     go_meet
     case rel=>rw [← HTD.out];exact ⟨HX1,HX2,HB2⟩
  case rest =>
   clear HX1 HX2 HB2 d0 d1 e0 e1
   obtain ⟨HX1,HX2,HB2⟩:=hcut
   have HE:=Ak (show shortN (c,ks)=(tdC c (ks.take j),ks.take j) by have h:=td_short (ks:=ks) HC0.out;rw [HN.out,HT.out] at h;exact h.symm)
   obtain ⟨c',hc'⟩:∃ c',c'=tdC c (ks.take j):=⟨_,rfl⟩
   rw [← hc'] at HX1 HE
   clear hc'
   obtain ⟨d0,d1,e0,e1⟩:=row2 HX1.out
   obtain ⟨f0,f1,g0,g1⟩:=row2 HX2.out
   go_wp2
   refine bodyPost_ret (results_c rfl _ _ (w.heap.size+1) 86 #[.int .i64 c',.slice A j cap] (0,0) _ rfl (set2 HX2.out) Try.underlying86 rfl (by kernel_rfl)) rfl ?_
   have hb':=Chg.trans_below HB2.out (chg_set2 wc (w.heap.size+1) (.int .i64 c') (.slice A j cap)) (fun _ e=>by omega) HB2.out.size
   refine ⟨A,j,cap,by rw [HE.out],by omega,?_,hb'⟩
   rw [HE.out]
   exact ((HR.out.take hj).later hb').mono fun _ h _=>.inl h
end Go.Proofs.Ytdboloabpjmgaaa

namespace Go.Proofs.Ytdboloabpjmgaaa
open Go.RowKit Go.Proofs.YtdboloabpjmgaaaW.PrintWords Go.RegionInvYtdboloabpjmgaaa Go.RegionEYtdboloabpjmgaaa

structure MkF (w wr:World) (o:Nat) (x:Int) (V:Value) (ys:List Int):Prop where
 box:wr.heap[o]?=some (.cells #[.int .i64 x,V] 86 (0,0))
 row:wr.ownsRow (o+1) 3 1 V ys.length (nums .i64 ys)
 bel:Below w.heap.size w wr
theorem MkF.grow {w wr w6:World} {o:Nat} {x:Int} {V V6:Value} {ys zs:List Int} (h:MkF w wr o x V ys) (ho:w.heap.size≤o) (ho6:w6.ownsRow (o+1) 3 1 V6 zs.length (nums .i64 zs)) (hg:wr.grownBy w6 V.ownBlock) :
  w6.heap[o]?=some (.cells #[.int .i64 x,V] 86 (0,0))∧(∀ (g:Nat) (ob:Obj),g≤o→wr.heap[g]?=some ob→w6.heap[g]?=some ob)∧MkF w (w6.setCell ⟨o,1,none⟩ V6) o x V6 zs:=by
 have far:∀ k,k<o+1→some k≠V.ownBlock:=fun k hk e=>by have:=own_base h.row k e.symm;omega
 have h1:w6.heap[o]?=some (.cells #[.int .i64 x,V] 86 (0,0)):=(hg.block _ (blk_lt h.box) (far _ (by omega))).trans h.box
 have hb:Below w.heap.size w w6:=⟨hg.os.trans h.bel.os,hg.tape.trans h.bel.tape,hg.output.trans h.bel.output,Nat.le_trans h.bel.size hg.size,fun i hi=>(hg.block i (Nat.lt_of_lt_of_le hi h.bel.size) (far i (by omega))).trans (h.bel.block i hi)⟩
 have hch:=chg_set w6 o 1 V6
 refine ⟨h1,fun g ob hgo hgb=>(hg.block _ (blk_lt hgb) (far _ (by omega))).trans hgb,⟨blk_put h1 1 V6 rfl,?_,Chg.trans_below hb hch (fun _ e=>by omega) hb.size⟩⟩
 exact own_setCell ho6 (fun e=>by have:=own_base ho6 o e.symm;omega) _
set_option maxHeartbeats 4000000 in
theorem refPlus_calls (A:Option Addr) (n cap:Nat) (c k:Int) (ks:List Int) (w:World) (hr:ReadsInt w .i64 A n ks) (hc0:0≤c) (hc1:c≤1099511627776) (hk0:0≤k) (hk1:k≤1099511627776) (hks:∀ x∈ks,-1≤x∧x≤1099511627776) (hl:n≤1000000) :
  Calls Try.prog 92 #[.agg #[.int .i64 c,.slice A n cap],.int .i64 k] w (NfGot w (fun _=>False) (shortN (plusR k (c,ks)))):=by
 have HR:=Ak hr
 have HN:=Ak hr.1
 have HKS:=Ak hks
 clear hr hks
 obtain ⟨W,hW⟩:∃ W,W=((w.alloc (.cells #[.int .i64 c,.slice A n cap] 86 (0,0))).alloc (.cells #[.int .i64 0,.slice none 0 0] 86 (0,0))).alloc (.cells #[.int .i64 c,.slice none 0 0] 86 (0,0)):=⟨_,rfl⟩
 have hx1:W.heap[w.heap.size]?=some (.cells #[.int .i64 c,.slice A n cap] 86 (0,0)):=by rw [hW];exact blk_alloc (box0 w _ _) _
 have hres:W.heap[w.heap.size+1]?=some (.cells #[.int .i64 0,.slice none 0 0] 86 (0,0)):=by rw [hW];exact blk_alloc (box1 w _ _) _
 have hst:MkF w W (w.heap.size+1+1) c (.slice none 0 0) []:=by
  rw [hW]
  refine ⟨?_,own_nil _ _ _ _,below_alloc (below_alloc (below_alloc (Below.refl _ _) _) _) _⟩
  have:=blk_new ((w.alloc (.cells #[.int .i64 c,.slice A n cap] 86 (0,0))).alloc (.cells #[.int .i64 0,.slice none 0 0] 86 (0,0))) (.cells #[.int .i64 c,.slice none 0 0] 86 (0,0))
  simpa using this
 have HX1:=Ak hx1
 have HRES:=Ak hres
 have HST:=Ak hst
 clear hx1 hres hst
 go_enter Try.func92,Try.ntmps92
 go_upto_region 3 with (fail)
 rw [← hW]
 clear hW
 obtain ⟨x,hx⟩:∃ x,x=(plusR k (c,ks)).1:=⟨_,rfl⟩
 have HPE:=Ak (show plusR k (c,ks)=(x,ks.map (addN k)) by rw [hx];rfl)
 have HXX:=Ak (show 0≤x by have:=hx;unfold plusR at this;simp only [] at this;split at this <;> omega)
 have HPX:=Ak hx
 clear hx
 obtain ⟨a0,a1,-,-⟩:=row2 HX1.out
 obtain ⟨d0,d1,e0,e1⟩:=row2 HST.out.box
 go_cut [19] (fun v wr=>v=.bool (decide (ks=[]∨0<c))∧Aside0 (MkF w wr (w.heap.size+1+1) c (.slice none 0 0) [])∧Aside0 (wr.heap[w.heap.size]?=some (.cells #[.int .i64 c,.slice A n cap] 86 (0,0)))∧Aside0 (wr.heap[w.heap.size+1]?=some (.cells #[.int .i64 0,.slice none 0 0] 86 (0,0))))
 case first =>
  by_cases hn:n=0
  ·subst hn
   have HB:=Ak (show decide (ks=[]∨0<c)=true from decide_eq_true (.inl (List.eq_nil_of_length_eq_zero HN.out)))
   go_wp2
   go_meet
   case rel=>exact ⟨by rw [HB.out],HST,HX1,HRES⟩
  ·have hn0:((n:Int) == 0)=false:=by simp [hn]
   have HKN:=Ak (show ks≠[] from fun e=>hn (by rw [← HN.out,e];rfl))
   by_cases hc:0<c
   ·have HB:=Ak (show decide (ks=[]∨0<c)=true from decide_eq_true (.inr hc))
    have hcd:decide (0<c)=true:=decide_eq_true hc
    clear hc
    go_wp2
    go_meet
    case rel=>exact ⟨by rw [HB.out],HST,HX1,HRES⟩
   ·have HB:=Ak (show decide (ks=[]∨0<c)=false from decide_eq_false (fun h=>h.elim HKN.out hc))
    have hcd:decide (0<c)=false:=decide_eq_false hc
    clear hc
    go_wp2
    go_meet
    case rel=>exact ⟨by rw [HB.out],HST,HX1,HRES⟩
 case rest =>
 clear HX1 HRES HST a0 a1 d0 d1 e0 e1
 obtain ⟨rfl,HST,HX1,HRES⟩:=hcut
 obtain ⟨a0,a1,-,-⟩:=row2 HX1.out
 obtain ⟨d0,d1,e0,e1⟩:=row2 HST.out.box
 obtain ⟨bb,hbb⟩:∃ bb,bb=decide (ks=[]∨0<c):=⟨_,rfl⟩
 rw [← hbb]
 have HPB:=Ak (show x=if bb=true then min 1099511627776 (c+k) else c by
  rw [HPX.out,hbb];unfold plusR;simp only [decide_eq_true_eq])
 clear hbb
 go_upto_if 19 with (fail)
 go_cut [] (fun wr=>Aside0 (MkF w wr (w.heap.size+1+1) x (.slice none 0 0) [])∧Aside0 (wr.heap[w.heap.size]?=some (.cells #[.int .i64 c,.slice A n cap] 86 (0,0)))∧Aside0 (wr.heap[w.heap.size+1]?=some (.cells #[.int .i64 0,.slice none 0 0] 86 (0,0))))
 case first =>
  cases bb with
  | true =>
   by_cases hck:c+k≤1099511627776
   ·have HXE:=Ak (show x=c+k by rw [HPB.out,if_pos rfl];omega)
    go_wp2
    go_meet
    have hch:=chg_set wc (w.heap.size+1+1) 0 (.int .i64 (c+k))
    case rel=>rw [HXE.out];exact ⟨⟨⟨blk_put HST.out.box 0 _ rfl,own_nil _ _ _ _,Chg.trans_below HST.out.bel hch (fun _ e=>by omega) HST.out.bel.size⟩⟩,⟨(hch.block _ (blk_lt HX1.out) (by omega)).trans HX1.out⟩,⟨(hch.block _ (blk_lt HRES.out) (by omega)).trans HRES.out⟩⟩
   ·have HXE:=Ak (show x=1099511627776 by rw [HPB.out,if_pos rfl];omega)
    go_wp2
    go_meet
    have hch:=chg_set wc (w.heap.size+1+1) 0 (.int .i64 (1099511627776))
    case rel=>rw [HXE.out];exact ⟨⟨⟨blk_put HST.out.box 0 _ rfl,own_nil _ _ _ _,Chg.trans_below HST.out.bel hch (fun _ e=>by omega) HST.out.bel.size⟩⟩,⟨(hch.block _ (blk_lt HX1.out) (by omega)).trans HX1.out⟩,⟨(hch.block _ (blk_lt HRES.out) (by omega)).trans HRES.out⟩⟩
  | false =>
   have HXE:=Ak (show x=c by rw [HPB.out];rfl)
   go_wp2
   go_meet
   case rel=>rw [HXE.out];exact ⟨HST,HX1,HRES⟩
 case rest =>
  clear HX1 HRES HST a0 a1 d0 d1 e0 e1
  obtain ⟨HST,HX1,HRES⟩:=hcut
  obtain ⟨a0,a1,-,-⟩:=row2 HX1.out
  go_upto_block 0 with (fail)
  go_cut [] (fun wr=>∃ V,Aside0 (MkF w wr (w.heap.size+1+1) x V (ks.map (addN k)))∧Aside0 (wr.heap[w.heap.size+1]?=some (.cells #[.int .i64 0,.slice none 0 0] 86 (0,0))))
  case first =>
   clear a0 a1
   go_wp2
   go_loopw [29] (fun i wr=>∃ (j:Nat) (V:Value),i=.int .i64 j∧j≤n∧Aside0 (MkF w wr (w.heap.size+1+1) x V ((ks.take j).map (addN k)))∧Aside0 (wr.heap[w.heap.size+1]?=some (.cells #[.int .i64 0,.slice none 0 0] 86 (0,0)))) (fun i _=>n - (intOf i).toNat)
   case atStart=>exact ⟨0,_,rfl,Nat.zero_le _,HST,HRES⟩
   case round =>
    clear HST HRES HX1
    obtain ⟨j,V,rfl,hj,HST,HRES⟩:=hrel
    obtain ⟨d0,d1,-,e1⟩:=row2 HST.out.box
    obtain ⟨A0,c0,rfl⟩:=own_slice HST.out.row
    obtain ⟨L,hL⟩:∃ L,L=((ks.take j).map (addN k)).length:=⟨_,rfl⟩
    rw [← hL] at HST d1
    have HL:=Ak hL
    have HLJ:=Ak (show L=j by rw [hL];simp;have:=HN.out;omega)
    clear hL
    by_cases hlt:j<n
    ·obtain ⟨ad,rfl,hcell⟩:=(HR.out.below HST.out.bel).at_ j (by omega) (by omega)
     rw [Int.toNat_natCast] at hcell
     obtain ⟨y,hy⟩:∃ y,y=rd ks (j:Int):=⟨_,rfl⟩
     rw [← hy] at hcell
     have hmem:-1≤y∧y≤1099511627776:=by
      rw [hy,rd_nat',List.getD_eq_getElem?_getD,List.getElem?_eq_getElem (by rw [HN.out];exact hlt)]
      exact HKS.out _ (List.getElem_mem _)
     have hget:ks[j]?=some y:=by rw [hy,rd_nat',List.getD_eq_getElem?_getD,List.getElem?_eq_getElem (by rw [HN.out];exact hlt)];rfl
     have HT:=Ak (show (ks.take (j+1)).map (addN k)=(ks.take j).map (addN k) ++ [addN k y] by
      rw [List.take_add_one,hget,List.map_append];rfl)
     clear hget
     have HLEN:=Ak (show ((ks.take j).map (addN k)).length=j by rw [← HL.out];exact HLJ.out)
     have hbase:w.heap.size+1+1+1≤wr.heap.size:=blk_lt HST.out.box
     clear hy
     by_cases h0:0≤y
     ·have HA:=Ak (show addN k y=(if 1099511627776<y+k then 1099511627776 else y+k) by unfold addN;rw [if_pos h0];omega)
      go_wp2_with (first
       | (at_builtin;go_must (refine print_append_num (w0:=wr) (w.heap.size+1+1+1) rfl (.tmp 40) (.tmp 42) 84 3 .i64 8 rfl Try.underlying84 infoI64 (by decide) (.slice A0 L c0) ((ks.take j).map (addN k)) _ rfl rfl HST.out.row (Below.refl _ _) hbase (by rw [HLEN.out];omega) ?_;intro v1 w1 ho _ hg _;obtain ⟨A6,L6,c6,rfl,-⟩:=own_slice' ho;have HG:=Ak (HST.out.grow (Nat.le_of_lt (by omega)) ho hg);have HR6:=Ak (HG.out.2.1 _ _ (by omega) HRES.out);obtain ⟨d0,d1,-,e1⟩:=row2 HG.out.1;clear ho hg)))
      go_roundw
      case rel =>
       refine ⟨j+1,.slice A6 L6 c6,by go_num,by omega,⟨?_⟩,⟨((chg_set w1 (w.heap.size+1+1) 1 _).block _ (blk_lt HR6.out) (by omega)).trans HR6.out⟩⟩
       rw [HT.out,HA.out]
       exact HG.out.2.2
      case measure=>(simp [intOf];try omega)
     ·have HA:=Ak (show addN k y=y by unfold addN;rw [if_neg h0])
      go_wp2_with (first
       | (at_builtin;go_must (refine print_append_num (w0:=wr) (w.heap.size+1+1+1) rfl (.tmp 40) (.tmp 42) 84 3 .i64 8 rfl Try.underlying84 infoI64 (by decide) (.slice A0 L c0) ((ks.take j).map (addN k)) _ rfl rfl HST.out.row (Below.refl _ _) hbase (by rw [HLEN.out];omega) ?_;intro v1 w1 ho _ hg _;obtain ⟨A6,L6,c6,rfl,-⟩:=own_slice' ho;have HG:=Ak (HST.out.grow (Nat.le_of_lt (by omega)) ho hg);have HR6:=Ak (HG.out.2.1 _ _ (by omega) HRES.out);obtain ⟨d0,d1,-,e1⟩:=row2 HG.out.1;clear ho hg)))
      go_roundw
      case rel =>
       refine ⟨j+1,.slice A6 L6 c6,by go_num,by omega,⟨?_⟩,⟨((chg_set w1 (w.heap.size+1+1) 1 _).block _ (blk_lt HR6.out) (by omega)).trans HR6.out⟩⟩
       rw [HT.out,HA.out]
       exact HG.out.2.2
      case measure=>(simp [intOf];try omega)
    ·obtain rfl:j=n:=by omega
     have hlt':decide ((j:Int)<j)=false:=by simp
     have HKT:=Ak (show ks.take j=ks from List.take_of_length_le (by rw [HN.out];exact Nat.le_refl _))
     go_wp2
     go_meet
     case rel=>rw [HKT.out,HL.out,HKT.out] at HST;exact ⟨_,HST,HRES⟩
  case rest =>
   clear HST HX1 HRES a0 a1
   obtain ⟨V,HST,HRES⟩:=hcut
   obtain ⟨A9,c9,rfl,hcap,hints⟩:=IntsS.of_own HST.out.row
   obtain ⟨L,hL⟩:∃ L,L=(ks.map (addN k)).length:=⟨_,rfl⟩
   rw [← hL] at HST hcap hints
   have HI:=Ak hints
   have HCAP:=Ak hcap
   obtain ⟨d0,d1,-,-⟩:=row2 HST.out.box
   clear hL hints hcap
   go_wp2_with (first
    | (go_at_call 116;go_must (refine (tidy_calls (fun b=>w.heap.size+1+1+1≤b) A9 L c9 x (ks.map (addN k)) _ HI.out HCAP.out HXX.out).mono ?_;rw [← HPE.out];obtain ⟨f,hf⟩:∃ f,f=shortN (plusR k (c,ks)):=⟨_,rfl⟩;rw [← hf];have HF:=Ak hf;rintro e w2 ⟨A2,n2,c2,rfl,hcap2,hi2,hb⟩;have HI2:=Ak hi2;have HCAP2:=Ak hcap2;have HZ2:=Ak (blk_lt HST.out.box);have HB2:=Ak (below_then HST.out.bel HST.out.bel.size hb);have HR2:=Ak (blk_below HRES.out hb);obtain ⟨f0,f1,g0,g1⟩:=row2 HR2.out;clear hb hi2 hcap2 hf)))
   have hch:=chg_set2 w2 (w.heap.size+1) (.int .i64 f.1) (.slice A2 n2 c2)
   refine bodyPost_ret (results_c rfl _ _ (w.heap.size+1) 86 #[.int .i64 f.1,.slice A2 n2 c2] (0,0) _ rfl (set2 HR2.out) Try.underlying86 rfl (by kernel_rfl)) rfl ?_
   rw [← HF.out]
   have hz2:=HZ2.out
   exact ⟨A2,n2,c2,rfl,HCAP2.out,(HI2.out.same fun b hb hz=>hch.block b hz (by rcases hb with hb | hb <;> omega)).mono fun b hb _=>.inr (by rcases hb with hb | hb <;> omega),Chg.trans_below HB2.out hch (fun _ e=>by omega) HB2.out.size⟩
end Go.Proofs.Ytdboloabpjmgaaa

namespace Go.Proofs.Ytdboloabpjmgaaa
open Go.RowKit Go.Proofs.YtdboloabpjmgaaaW.PrintWords Go.RegionInvYtdboloabpjmgaaa Go.RegionEYtdboloabpjmgaaa

structure OrF (w wr:World) (c c':Int) (B B':Value):Prop where
 x2:wr.heap[w.heap.size]?=some (.cells #[.int .i64 c,B] 86 (0,0))
 x3:wr.heap[w.heap.size+1]?=some (.cells #[.int .i64 c',B'] 86 (0,0))
 x4:wr.heap[w.heap.size+1+1]?=some (.cells #[.int .i64 0,.slice none 0 0] 86 (0,0))
theorem orK_all {f g:Nf}:orN f g=(max f.1 g.1,orK f.2 g.2 (max f.2.length g.2.length)):=rfl
set_option maxHeartbeats 8000000 in
theorem refBoth_calls (A A':Option Addr) (n cap n' cap':Nat) (c c':Int) (ks ks':List Int) (w:World) (hr:ReadsInt w .i64 A n ks) (hr':ReadsInt w .i64 A' n' ks') (hc0:0≤c) (hks:∀ x∈ks,-1≤x∧x≤1099511627776) (hks':∀ x∈ks',-1≤x∧x≤1099511627776) (hl:n≤1000000) (hl':n'≤1000000) :
  Calls Try.prog 91 #[.agg #[.int .i64 c,.slice A n cap],.agg #[.int .i64 c',.slice A' n' cap']] w (NfGot w (fun _=>False) (shortN (orN (c,ks) (c',ks')))):=by
 have HR:=Ak hr
 have HR':=Ak hr'
 have HN:=Ak hr.1
 have HN':=Ak hr'.1
 have HKS:=Ak hks
 have HKS':=Ak hks'
 clear hr hr' hks hks'
 go_enter Try.func91,Try.ntmps91
 go_upto_region 2 with (fail)
 obtain ⟨x,hx⟩:∃ x,x=(if c<c' then c' else c):=⟨_,rfl⟩
 rw [← hx]
 have HXE:=Ak (show x=max c c' by rw [hx];omega)
 have HXX:=Ak (show 0≤x by rw [hx];split <;> omega)
 clear hx
 go_upto_block 0 with (fail)
 obtain ⟨W,hW⟩:∃ W,W=((((w.alloc (.cells #[.int .i64 c,.slice A n cap] 86 (0,0))).alloc (.cells #[.int .i64 c',.slice A' n' cap'] 86 (0,0))).alloc (.cells #[.int .i64 0,.slice none 0 0] 86 (0,0))).alloc (.cells #[.int .i64 x,.slice none 0 0] 86 (0,0))):=⟨_,rfl⟩
 have hst:MkF w W (w.heap.size+1+1+1) x (.slice none 0 0) []:=by
  rw [hW]
  refine ⟨?_,own_nil _ _ _ _,below_alloc (below_alloc (below_alloc (below_alloc (Below.refl _ _) _) _) _) _⟩
  have:=blk_new (((w.alloc (.cells #[.int .i64 c,.slice A n cap] 86 (0,0))).alloc (.cells #[.int .i64 c',.slice A' n' cap'] 86 (0,0))).alloc (.cells #[.int .i64 0,.slice none 0 0] 86 (0,0))) (.cells #[.int .i64 x,.slice none 0 0] 86 (0,0))
  simpa using this
 have hres:OrF w W c c' (.slice A n cap) (.slice A' n' cap'):=by
  rw [hW]
  refine ⟨blk_alloc (blk_alloc (box0 _ _ _) _) _,blk_alloc (blk_alloc (box1 _ _ _) _) _,blk_alloc ?_ _⟩
  have:=blk_new ((w.alloc (.cells #[.int .i64 c,.slice A n cap] 86 (0,0))).alloc (.cells #[.int .i64 c',.slice A' n' cap'] 86 (0,0))) (.cells #[.int .i64 0,.slice none 0 0] 86 (0,0))
  simpa using this
 have HST:=Ak hst
 have HRES:=Ak hres
 rw [← hW]
 clear hst hres hW
 obtain ⟨m,hm⟩:∃ m:Nat,(m:Int)=(if n<n' then (n':Int) else n):=⟨max n n',by omega⟩
 rw [← hm]
 have HM:=Ak (show m=max ks.length ks'.length by rw [HN.out,HN'.out];omega)
 have hmn:m=max n n':=by omega
 have HMN:=Ak hmn
 have hml:m≤1000000:=by omega
 clear hm hmn
 go_cut [] (fun wr=>∃ V,Aside0 (MkF w wr (w.heap.size+1+1+1) x V (orK ks ks' m))∧Aside0 (OrF w wr c c' (.slice A n cap) (.slice A' n' cap')))
 case first =>
  go_wp2
  go_loopw [21] (fun i wr=>∃ (j:Nat) (V:Value),i=.int .i64 j∧j≤m∧Aside0 (MkF w wr (w.heap.size+1+1+1) x V (orK ks ks' j))∧Aside0 (OrF w wr c c' (.slice A n cap) (.slice A' n' cap'))) (fun i _=>m - (intOf i).toNat)
  case atStart=>exact ⟨0,_,rfl,Nat.zero_le _,HST,HRES⟩
  case round =>
   clear HST HRES
   obtain ⟨j,V,rfl,hj,HST,HRES⟩:=hrel
   by_cases hlt:j<m
   ·obtain ⟨d0,d1,-,e1⟩:=row2 HST.out.box
    obtain ⟨a0,a1,-,-⟩:=row2 HRES.out.x2
    obtain ⟨b0,b1,-,-⟩:=row2 HRES.out.x3
    obtain ⟨A0,c0,rfl⟩:=own_slice HST.out.row
    obtain ⟨L,hL⟩:∃ L,L=(orK ks ks' j).length:=⟨_,rfl⟩
    rw [← hL] at HST d1
    have HLJ:=Ak (show L=j by rw [hL,orK_len])
    have HLEN:=Ak (show (orK ks ks' j).length=j from orK_len _ _ _)
    have hbase:w.heap.size+1+1+1+1≤wr.heap.size:=blk_lt HST.out.box
    have HT:=Ak (orK_succ ks ks' j)
    clear hL
    by_cases h1:j<n
    ·obtain ⟨p,rfl,hc1⟩:=(HR.out.below HST.out.bel).at_ j (by omega) (by omega)
     rw [Int.toNat_natCast] at hc1
     obtain ⟨y,hy⟩:∃ y,y=rd ks (j:Int):=⟨_,rfl⟩
     rw [← hy] at hc1
     have HAy:=Ak (show atP ks j=y by rw [hy];exact atP_lt (by rw [HN.out];exact h1))
     have HMy:=Ak (show -1≤y∧y≤1099511627776 by rw [hy,rd_nat',List.getD_eq_getElem?_getD,List.getElem?_eq_getElem (by rw [HN.out];exact h1)];exact HKS.out _ (List.getElem_mem _))
     clear hy
     by_cases h2:j<n'
     ·obtain ⟨p',rfl,hc2⟩:=(HR'.out.below HST.out.bel).at_ j (by omega) (by omega)
      rw [Int.toNat_natCast] at hc2
      obtain ⟨z,hz⟩:∃ z,z=rd ks' (j:Int):=⟨_,rfl⟩
      rw [← hz] at hc2
      have HAz:=Ak (show atP ks' j=z by rw [hz];exact atP_lt (by rw [HN'.out];exact h2))
      have HMz:=Ak (show -1≤z∧z≤1099511627776 by rw [hz,rd_nat',List.getD_eq_getElem?_getD,List.getElem?_eq_getElem (by rw [HN'.out];exact h2)];exact HKS'.out _ (List.getElem_mem _))
      clear hz
      have HE:=Ak (show max (atP ks j) (atP ks' j)=(if y<z then z else y) by rw [HAy.out,HAz.out];omega)
      go_wp2_with (first
       | (at_builtin;go_must (refine print_append_num (w0:=wr) (w.heap.size+1+1+1+1) rfl (.tmp 47) (.tmp 49) 84 3 .i64 8 rfl Try.underlying84 infoI64 (by decide) (.slice A0 L c0) (orK ks ks' j) _ rfl rfl (by have h:=HST.out.row;rw [HLJ.out,HLEN.out] at h;rw [HLJ.out,HLEN.out];exact h) (Below.refl _ _) hbase (by rw [HLEN.out];omega) ?_;intro v1 w1 ho _ hg _;obtain ⟨A6,L6,c6,rfl,-⟩:=own_slice' ho;have HG:=Ak (HST.out.grow (Nat.le_of_lt (by omega)) ho hg);have HR6:=Ak (show OrF w w1 c c' _ _ from ⟨HG.out.2.1 _ _ (by omega) HRES.out.x2,HG.out.2.1 _ _ (by omega) HRES.out.x3,HG.out.2.1 _ _ (by omega) HRES.out.x4⟩);obtain ⟨d0,d1,-,e1⟩:=row2 HG.out.1;clear ho hg)))
      go_roundw
      case rel =>
       have hch:=chg_set w1 (w.heap.size+1+1+1) 1 (.slice A6 L6 c6)
       refine ⟨j+1,.slice A6 L6 c6,by go_num,by omega,⟨?_⟩,⟨⟨(hch.block _ (blk_lt HR6.out.x2) (by omega)).trans HR6.out.x2,(hch.block _ (blk_lt HR6.out.x3) (by omega)).trans HR6.out.x3,(hch.block _ (blk_lt HR6.out.x4) (by omega)).trans HR6.out.x4⟩⟩⟩
       rw [HT.out,HE.out]
       exact HG.out.2.2
      case measure=>(simp [intOf];try omega)
     ·have HE:=Ak (show max (atP ks j) (atP ks' j)=y by rw [HAy.out,atP_beyond (by rw [HN'.out];omega)];have:=HMy.out;omega)
      go_wp2_with (first
       | (at_builtin;go_must (refine print_append_num (w0:=wr) (w.heap.size+1+1+1+1) rfl (.tmp 47) (.tmp 49) 84 3 .i64 8 rfl Try.underlying84 infoI64 (by decide) (.slice A0 L c0) (orK ks ks' j) _ rfl rfl (by have h:=HST.out.row;rw [HLJ.out,HLEN.out] at h;rw [HLJ.out,HLEN.out];exact h) (Below.refl _ _) hbase (by rw [HLEN.out];omega) ?_;intro v1 w1 ho _ hg _;obtain ⟨A6,L6,c6,rfl,-⟩:=own_slice' ho;have HG:=Ak (HST.out.grow (Nat.le_of_lt (by omega)) ho hg);have HR6:=Ak (show OrF w w1 c c' _ _ from ⟨HG.out.2.1 _ _ (by omega) HRES.out.x2,HG.out.2.1 _ _ (by omega) HRES.out.x3,HG.out.2.1 _ _ (by omega) HRES.out.x4⟩);obtain ⟨d0,d1,-,e1⟩:=row2 HG.out.1;clear ho hg)))
      go_roundw
      case rel =>
       have hch:=chg_set w1 (w.heap.size+1+1+1) 1 (.slice A6 L6 c6)
       refine ⟨j+1,.slice A6 L6 c6,by go_num,by omega,⟨?_⟩,⟨⟨(hch.block _ (blk_lt HR6.out.x2) (by omega)).trans HR6.out.x2,(hch.block _ (blk_lt HR6.out.x3) (by omega)).trans HR6.out.x3,(hch.block _ (blk_lt HR6.out.x4) (by omega)).trans HR6.out.x4⟩⟩⟩
       rw [HT.out,HE.out]
       exact HG.out.2.2
      case measure=>(simp [intOf];try omega)
    ·have h2:j<n':=by have:=HMN.out;omega
     obtain ⟨p',rfl,hc2⟩:=(HR'.out.below HST.out.bel).at_ j (by omega) (by omega)
     rw [Int.toNat_natCast] at hc2
     obtain ⟨z,hz⟩:∃ z,z=rd ks' (j:Int):=⟨_,rfl⟩
     rw [← hz] at hc2
     have HAz:=Ak (show atP ks' j=z by rw [hz];exact atP_lt (by rw [HN'.out];exact h2))
     have HMz:=Ak (show -1≤z∧z≤1099511627776 by rw [hz,rd_nat',List.getD_eq_getElem?_getD,List.getElem?_eq_getElem (by rw [HN'.out];exact h2)];exact HKS'.out _ (List.getElem_mem _))
     clear hz
     have HE:=Ak (show max (atP ks j) (atP ks' j)=(if -1<z then z else -1) by rw [atP_beyond (by rw [HN.out];omega),HAz.out];omega)
     go_wp2_with (first
      | (at_builtin;go_must (refine print_append_num (w0:=wr) (w.heap.size+1+1+1+1) rfl (.tmp 47) (.tmp 49) 84 3 .i64 8 rfl Try.underlying84 infoI64 (by decide) (.slice A0 L c0) (orK ks ks' j) _ rfl rfl (by have h:=HST.out.row;rw [HLJ.out,HLEN.out] at h;rw [HLJ.out,HLEN.out];exact h) (Below.refl _ _) hbase (by rw [HLEN.out];omega) ?_;intro v1 w1 ho _ hg _;obtain ⟨A6,L6,c6,rfl,-⟩:=own_slice' ho;have HG:=Ak (HST.out.grow (Nat.le_of_lt (by omega)) ho hg);have HR6:=Ak (show OrF w w1 c c' _ _ from ⟨HG.out.2.1 _ _ (by omega) HRES.out.x2,HG.out.2.1 _ _ (by omega) HRES.out.x3,HG.out.2.1 _ _ (by omega) HRES.out.x4⟩);obtain ⟨d0,d1,-,e1⟩:=row2 HG.out.1;clear ho hg)))
     go_roundw
     case rel =>
      have hch:=chg_set w1 (w.heap.size+1+1+1) 1 (.slice A6 L6 c6)
      refine ⟨j+1,.slice A6 L6 c6,by go_num,by omega,⟨?_⟩,⟨⟨(hch.block _ (blk_lt HR6.out.x2) (by omega)).trans HR6.out.x2,(hch.block _ (blk_lt HR6.out.x3) (by omega)).trans HR6.out.x3,(hch.block _ (blk_lt HR6.out.x4) (by omega)).trans HR6.out.x4⟩⟩⟩
      rw [HT.out,HE.out]
      exact HG.out.2.2
     case measure=>(simp [intOf];try omega)
   ·obtain rfl:j=m:=by omega
    have hlt':decide ((j:Int)<j)=false:=by simp
    go_wp2
    go_meet
    case rel=>exact ⟨_,HST,HRES⟩
 case rest =>
  clear HST HRES
  obtain ⟨V,HST,HRES⟩:=hcut
  obtain ⟨A9,c9,rfl,hcap,hints⟩:=IntsS.of_own HST.out.row
  obtain ⟨L,hL⟩:∃ L,L=(orK ks ks' m).length:=⟨_,rfl⟩
  rw [← hL] at HST hcap hints
  have HI:=Ak hints
  have HCAP:=Ak hcap
  have HPE:=Ak (show orN (c,ks) (c',ks')=(x,orK ks ks' m) by rw [orK_all,HM.out,HXE.out])
  obtain ⟨d0,d1,-,-⟩:=row2 HST.out.box
  clear hL hints hcap
  go_wp2_with (first
   | (go_at_call 116;go_must (refine (tidy_calls (fun b=>w.heap.size+1+1+1+1≤b) A9 L c9 x (orK ks ks' m) _ HI.out HCAP.out HXX.out).mono ?_;rw [← HPE.out];obtain ⟨f,hf⟩:∃ f,f=shortN (orN (c,ks) (c',ks')):=⟨_,rfl⟩;rw [← hf];have HF:=Ak hf;rintro e w2 ⟨A2,n2,c2,rfl,hcap2,hi2,hb⟩;have HI2:=Ak hi2;have HCAP2:=Ak hcap2;have HZ2:=Ak (blk_lt HST.out.box);have HB2:=Ak (below_then HST.out.bel HST.out.bel.size hb);have HR2:=Ak (blk_below HRES.out.x4 hb);obtain ⟨f0,f1,g0,g1⟩:=row2 HR2.out;clear hb hi2 hcap2 hf)))
  have hch:=chg_set2 w2 (w.heap.size+1+1) (.int .i64 f.1) (.slice A2 n2 c2)
  refine bodyPost_ret (results_c rfl _ _ (w.heap.size+1+1) 86 #[.int .i64 f.1,.slice A2 n2 c2] (0,0) _ rfl (set2 HR2.out) Try.underlying86 rfl (by kernel_rfl)) rfl ?_
  rw [← HF.out]
  have hz2:=HZ2.out
  exact ⟨A2,n2,c2,rfl,HCAP2.out,(HI2.out.same fun b hb hz=>hch.block b hz (by rcases hb with hb | hb <;> omega)).mono fun b hb _=>.inr (by rcases hb with hb | hb <;> omega),Chg.trans_below HB2.out hch (fun _ e=>by omega) HB2.out.size⟩
end Go.Proofs.Ytdboloabpjmgaaa

namespace Go.Proofs.Ytdboloabpjmgaaa
open Go.RowKit Go.Proofs.YtdboloabpjmgaaaW.PrintWords Go.RegionInvYtdboloabpjmgaaa Go.RegionEYtdboloabpjmgaaa
set_option linter.unusedVariables false

def NfBoxF (g:Nat) (f:Nf) (w:World) (O:Nat→Prop):Prop:=∃ A n cap,w.heap[g]?=some (.cells #[.int .i64 f.1,.slice A n cap] 86 (0,0))∧O g∧n≤cap∧IntsS w (fun k=>O k∧k≠g) A n f.2
theorem stableE_nfboxF {w0:World} {E:Nat→Nat→Prop} {f:Nf} {g:Nat}:StableE w0 E (fun _ w O=>NfBoxF g f w O):=by
 rintro v w w' O ⟨A,n,cap,hb,hO,h1,h2⟩ hz hk
 exact ⟨A,n,cap,(hk g (blk_lt hb) (.inr hO)).trans hb,hO,h1,h2.same fun k hk' hz'=>hk k hz' (.inr hk'.1)⟩

def rn1_ops:List Oper:=[
 { dst:=some 32,op:=Go.Op.fieldAddr 25 (Go.Operand.tmp 1) 2,type:=0,pos:= "ref.go:137",after:=#[],guard:=none },
 { dst:=some 33,op:=Go.Op.load 23 (Go.Operand.tmp 32),type:=23,pos:= "ref.go:137",after:=#[{ on:=0,ground:=Go.Ground.data }],guard:=none },
 { dst:=some 34,op:=Go.Op.indexAddr 23 (Go.Operand.tmp 33) (Go.Operand.const (Go.Value.int Go.IntKind.i64 0)),type:=0,pos:= "ref.go:137",after:=#[{ on:=1,ground:=Go.Ground.data }],guard:=none },
 { dst:=some 35,op:=Go.Op.load 25 (Go.Operand.tmp 34),type:=25,pos:= "ref.go:137",after:=#[{ on:=2,ground:=Go.Ground.data }],guard:=none },
 { dst:=some 36,op:=Go.Op.call { callee:=Go.Callee.value (Go.Operand.func 90),args:=#[Go.Operand.tmp 35],argTypes:=#[25] },type:=86,pos:= "ref.go:137",after:=#[{ on:=3,ground:=Go.Ground.data }],guard:=none },
 { dst:=some 37,op:=Go.Op.fieldAddr 25 (Go.Operand.tmp 1) 1,type:=0,pos:= "ref.go:137",after:=#[],guard:=none },
 { dst:=some 38,op:=Go.Op.load 3 (Go.Operand.tmp 37),type:=3,pos:= "ref.go:137",after:=#[{ on:=5,ground:=Go.Ground.data }],guard:=none },
 { dst:=some 39,op:=Go.Op.call { callee:=Go.Callee.value (Go.Operand.func 92),args:=#[Go.Operand.tmp 36,Go.Operand.tmp 38],argTypes:=#[86,3] },type:=86,pos:= "ref.go:137",after:=#[{ on:=4,ground:=Go.Ground.data },{ on:=6,ground:=Go.Ground.data },{ on:=4,ground:=Go.Ground.chain }],guard:=none },
 { dst:=none,op:=Go.Op.store 86 (Go.Operand.tmp 2) (Go.Operand.tmp 39),type:=0,pos:= "ref.go:137",after:=#[{ on:=7,ground:=Go.Ground.data },{ on:=7,ground:=Go.Ground.chain },{ on:=0,ground:=Go.Ground.phase },{ on:=1,ground:=Go.Ground.phase },{ on:=2,ground:=Go.Ground.phase },{ on:=3,ground:=Go.Ground.phase },{ on:=4,ground:=Go.Ground.phase },{ on:=5,ground:=Go.Ground.phase },{ on:=6,ground:=Go.Ground.phase },{ on:=7,ground:=Go.Ground.phase }],guard:=none }]
def rn1_F (w0:World) (b:Nat) (k n:Int) (gb off m c:Nat) (g0 B0:Value) (xk0 xn0:Int) (A0:Option Addr) (m0 c0:Nat) (f0:Nf)  : Nat→(Nat→Value)→Value→World→(Nat→Prop)→Prop:=fun rix=>match rix with
 | 0=>fun _ v _ _=>v=.pointer (some ⟨b,2,none⟩)
 | 1=>fun _ v _ _=>v=.slice (some ⟨gb,off,none⟩) m c
 | 2=>fun _ v _ _=>v=.pointer (some ⟨gb,off,none⟩)
 | 3=>fun _ v _ _=>v=.agg #[.int .i64 xk0,.int .i64 xn0,.slice A0 m0 c0]
 | 4=>fun τ v w O=>NfV (fun _=>False) f0 v w O
 | 5=>fun _ v _ _=>v=.pointer (some ⟨b,1,none⟩)
 | 6=>fun _ v _ _=>v=.int .i64 n
 | 7=>fun τ v w O=>NfV (fun _=>False) (shortN (plusR n f0)) v w O
 | 8=>fun τ v w O=>NfBoxF (b+1) (shortN (plusR n f0)) w O
 | _=>fun _ _ _ _=>True
def rn1_C:Nat→List Nat:=fun rix=>match rix with
 | 8=>[7]
 | _=>[]
theorem rn1_nw1:nwB rn1_ops.toArray 1=true:=by kernel_rfl
theorem rn1_nw2:nwB rn1_ops.toArray 2=true:=by kernel_rfl
set_option maxRecDepth 100000 in
set_option maxHeartbeats 8000000 in
theorem rn1_obs (w0:World) (b:Nat) (k n:Int) (gb off m c:Nat) (g0 B0:Value) (xk0 xn0:Int) (A0:Option Addr) (m0 c0:Nat) (f0:Nf)  (hx2:w0.heap[b]?=some (.cells #[.int .i64 k,.int .i64 n,.slice (some ⟨gb,off,none⟩) m c] 25 (0,0))) (hx4:w0.heap[b+1]?=some (.cells #[g0,B0] 86 (0,0))) (hgb:gb<b) (hc0:w0.cell? ⟨gb,off,none⟩=some (.int .i64 xk0)) (hc1:w0.cell? ⟨gb,off+1,none⟩=some (.int .i64 xn0)) (hc2:w0.cell? ⟨gb,off+2,none⟩=some (.slice A0 m0 c0)) (hof0:∀ w,(∀ k,k<b→w.heap[k]?=w0.heap[k]?)→w0.heap.size≤w.heap.size→Calls Try.prog 90 #[.agg #[.int .i64 xk0,.int .i64 xn0,.slice A0 m0 c0]] w (NfGot w (fun _=>False) f0)) (hm:0<m) (hn0:0≤n) (hn1:n≤1099511627776) (hf0:NfOk f0) (Q:Exit→Act→World→Prop) (a0:Act) (hi1:a0.tmps.getD 1 undef=.pointer (some ⟨b,0,none⟩)) (hi2:a0.tmps.getD 2 undef=.pointer (some ⟨b+1,0,none⟩)) :
  ObsE Try.prog rn1_ops.toArray Q (est2 8 0 (fun k=>k=b+1) (fun _=>False)) rn1_C (rn1_F w0 b k n gb off m c g0 B0 xk0 xn0 A0 m0 c0 f0 ) a0 w0 rn1_ops.toArray.toList 0:=by
 have nw1:=rn1_nw1
 have nw2:=rn1_nw2
 refine ⟨?_,?_,?_,?_,?_,?_,?_,?_,?_,trivial⟩
 ·refine ⟨⟨fun τ=>stableE_det _,leans_not⟩,?_⟩
  intro a w O hk
  have e1:a.eval (.tmp 1)=.pointer (some ⟨b,0,none⟩):=(hk.init 1 (initialB_of_nw nw1)).trans hi1
  exact obE_run (wanted_none rfl) (by unfold execOp;simp only [];rw [e1];go_simp) rfl
 ·refine ⟨⟨fun τ=>stableE_det _,leans_not⟩,?_⟩
  intro a w O hk
  have e32:a.eval (.tmp 32)=.pointer (some ⟨b,2,none⟩):=hk.fact 0 _ 32 rfl rfl rfl rfl
  have x2:=hk.world.still hx2 (fun ⟨_,h⟩=>h.elim (fun h=>by have:b=b+1:=h.2;omega) (fun h=>h.2))
  obtain ⟨p0,p1,p2,-,-,-⟩:=row3 x2
  have hfx:∀ k,k<b→w.heap[k]?=w0.heap[k]?:=fun k hkb=>hk.fix k (est2_fix (by have:=blk_lt hx2;omega) (fun h=>by omega) (fun h=>h))
  have hcc:∀ j,w.cell? ⟨gb,j,none⟩=w0.cell? ⟨gb,j,none⟩:=fun j=>cell_same (hfx _ hgb)
  have q0:=(hcc _).trans hc0
  have q1:=(hcc _).trans hc1
  have q2:=(hcc _).trans hc2
  exact obE_run (wanted_none rfl) (by unfold execOp;simp only [];rw [e32];go_simp) rfl
 ·refine ⟨⟨fun τ=>stableE_det _,leans_not⟩,?_⟩
  intro a w O hk
  have e33:a.eval (.tmp 33)=.slice (some ⟨gb,off,none⟩) m c:=hk.fact 1 _ 33 rfl rfl rfl rfl
  have x2:=hk.world.still hx2 (fun ⟨_,h⟩=>h.elim (fun h=>by have:b=b+1:=h.2;omega) (fun h=>h.2))
  obtain ⟨p0,p1,p2,-,-,-⟩:=row3 x2
  have hfx:∀ k,k<b→w.heap[k]?=w0.heap[k]?:=fun k hkb=>hk.fix k (est2_fix (by have:=blk_lt hx2;omega) (fun h=>by omega) (fun h=>h))
  have hcc:∀ j,w.cell? ⟨gb,j,none⟩=w0.cell? ⟨gb,j,none⟩:=fun j=>cell_same (hfx _ hgb)
  have q0:=(hcc _).trans hc0
  have q1:=(hcc _).trans hc1
  have q2:=(hcc _).trans hc2
  exact obE_run (wanted_none rfl) (by unfold execOp;simp only [];rw [e33];go_simp) rfl
 ·refine ⟨⟨fun τ=>stableE_det _,leans_not⟩,?_⟩
  intro a w O hk
  have e34:a.eval (.tmp 34)=.pointer (some ⟨gb,off,none⟩):=hk.fact 2 _ 34 rfl rfl rfl rfl
  have x2:=hk.world.still hx2 (fun ⟨_,h⟩=>h.elim (fun h=>by have:b=b+1:=h.2;omega) (fun h=>h.2))
  obtain ⟨p0,p1,p2,-,-,-⟩:=row3 x2
  have hfx:∀ k,k<b→w.heap[k]?=w0.heap[k]?:=fun k hkb=>hk.fix k (est2_fix (by have:=blk_lt hx2;omega) (fun h=>by omega) (fun h=>h))
  have hcc:∀ j,w.cell? ⟨gb,j,none⟩=w0.cell? ⟨gb,j,none⟩:=fun j=>cell_same (hfx _ hgb)
  have q0:=(hcc _).trans hc0
  have q1:=(hcc _).trans hc1
  have q2:=(hcc _).trans hc2
  exact obE_run (wanted_none rfl) (by unfold execOp;simp only [];rw [e34];go_simp) rfl
 ·refine ⟨⟨fun τ=>stableE_nf (fun k hk'=>hk'.elim),leans_not⟩,?_⟩
  intro a w O hk
  have e35:a.eval (.tmp 35)=.agg #[.int .i64 xk0,.int .i64 xn0,.slice A0 m0 c0]:=hk.fact 3 _ 35 rfl rfl rfl rfl
  have x2:=hk.world.still hx2 (fun ⟨_,h⟩=>h.elim (fun h=>by have:b=b+1:=h.2;omega) (fun h=>h.2))
  obtain ⟨p0,p1,p2,-,-,-⟩:=row3 x2
  have hfx:∀ k,k<b→w.heap[k]?=w0.heap[k]?:=fun k hkb=>hk.fix k (est2_fix (by have:=blk_lt hx2;omega) (fun h=>by omega) (fun h=>h))
  have hcc:∀ j,w.cell? ⟨gb,j,none⟩=w0.cell? ⟨gb,j,none⟩:=fun j=>cell_same (hfx _ hgb)
  have q0:=(hcc _).trans hc0
  have q1:=(hcc _).trans hc1
  have q2:=(hcc _).trans hc2
  refine obE_callNew #[.agg #[.int .i64 xk0,.int .i64 xn0,.slice A0 m0 c0]] rfl rfl rfl rfl (by simp only [List.map_cons,List.map_nil];rw [e35]) (wanted_none rfl) ((hof0 w hfx hk.world.size).mono ?_)
  intro e w' h
  exact NfV.of_got h
 ·refine ⟨⟨fun τ=>stableE_det _,leans_not⟩,?_⟩
  intro a w O hk
  have e1:a.eval (.tmp 1)=.pointer (some ⟨b,0,none⟩):=(hk.init 1 (initialB_of_nw nw1)).trans hi1
  exact obE_run (wanted_none rfl) (by unfold execOp;simp only [];rw [e1];go_simp) rfl
 ·refine ⟨⟨fun τ=>stableE_det _,leans_not⟩,?_⟩
  intro a w O hk
  have e37:a.eval (.tmp 37)=.pointer (some ⟨b,1,none⟩):=hk.fact 5 _ 37 rfl rfl rfl rfl
  have x2:=hk.world.still hx2 (fun ⟨_,h⟩=>h.elim (fun h=>by have:b=b+1:=h.2;omega) (fun h=>h.2))
  obtain ⟨p0,p1,p2,-,-,-⟩:=row3 x2
  have hfx:∀ k,k<b→w.heap[k]?=w0.heap[k]?:=fun k hkb=>hk.fix k (est2_fix (by have:=blk_lt hx2;omega) (fun h=>by omega) (fun h=>h))
  have hcc:∀ j,w.cell? ⟨gb,j,none⟩=w0.cell? ⟨gb,j,none⟩:=fun j=>cell_same (hfx _ hgb)
  have q0:=(hcc _).trans hc0
  have q1:=(hcc _).trans hc1
  have q2:=(hcc _).trans hc2
  exact obE_run (wanted_none rfl) (by unfold execOp;simp only [];rw [e37];go_simp) rfl
 ·refine ⟨⟨fun τ=>stableE_nf (fun k hk'=>hk'.elim),leans_not⟩,?_⟩
  intro a w O hk
  have f36:=hk.fact 4 _ 36 rfl rfl rfl rfl
  have g36:=hk.owns 4 rfl rfl
  have e38:a.eval (.tmp 38)=.int .i64 n:=hk.fact 6 _ 38 rfl rfl rfl rfl
  have x2:=hk.world.still hx2 (fun ⟨_,h⟩=>h.elim (fun h=>by have:b=b+1:=h.2;omega) (fun h=>h.2))
  obtain ⟨p0,p1,p2,-,-,-⟩:=row3 x2
  have hfx:∀ k,k<b→w.heap[k]?=w0.heap[k]?:=fun k hkb=>hk.fix k (est2_fix (by have:=blk_lt hx2;omega) (fun h=>by omega) (fun h=>h))
  have hcc:∀ j,w.cell? ⟨gb,j,none⟩=w0.cell? ⟨gb,j,none⟩:=fun j=>cell_same (hfx _ hgb)
  have q0:=(hcc _).trans hc0
  have q1:=(hcc _).trans hc1
  have q2:=(hcc _).trans hc2
  obtain ⟨A,n',cap,e36,h1,h2⟩:=f36
  have hln:=h2.1.1
  have hok:=hf0
  refine obE_callNew #[.agg #[.int .i64 f0.1,.slice A n' cap],.int .i64 n] rfl rfl rfl rfl (by simp only [List.map_cons,List.map_nil];rw [e38,show a.eval (.tmp 36)=_ from e36]) (wanted_none rfl) ((refPlus_calls A n' cap f0.1 n f0.2 w h2.1 hok.1 hok.2.1 hn0 hn1 hok.2.2.1 (by have:=hok.2.2.2;omega)).mono ?_)
  intro e w' h
  exact NfV.of_got h
 ·refine ⟨⟨fun τ=>stableE_nfboxF,leans_not⟩,?_⟩
  intro a w O hk
  have e2:a.eval (.tmp 2)=.pointer (some ⟨b+1,0,none⟩):=(hk.init 2 (initialB_of_nw nw2)).trans hi2
  have f39:=hk.fact 7 _ 39 rfl rfl rfl rfl
  have g39:=hk.owns 7 rfl rfl
  have x2:=hk.world.still hx2 (fun ⟨_,h⟩=>h.elim (fun h=>by have:b=b+1:=h.2;omega) (fun h=>h.2))
  obtain ⟨p0,p1,p2,-,-,-⟩:=row3 x2
  have hfx:∀ k,k<b→w.heap[k]?=w0.heap[k]?:=fun k hkb=>hk.fix k (est2_fix (by have:=blk_lt hx2;omega) (fun h=>by omega) (fun h=>h))
  have hcc:∀ j,w.cell? ⟨gb,j,none⟩=w0.cell? ⟨gb,j,none⟩:=fun j=>cell_same (hfx _ hgb)
  have q0:=(hcc _).trans hc0
  have q1:=(hcc _).trans hc1
  have q2:=(hcc _).trans hc2
  have x4:=(hk.est 8 _ rfl (.inl rfl) (b+1) (.inl ⟨rfl,rfl⟩)).trans hx4
  obtain ⟨z0,z1,y0,y1⟩:=row2 x4
  obtain ⟨A,n',cap,e39,h1,h2⟩:=f39
  refine obE_store (w':=(w.setCell ⟨b+1,0,none⟩ (.int .i64 (shortN (plusR n f0)).1)).setCell ⟨b+1,1,none⟩ (.slice A n' cap)) (fun k=>k=b+1∨O 7 k) (wanted_none rfl) (by unfold execOp;simp only [];rw [e2,show a.eval (.tmp 39)=_ from e39];go_simp) ((chg_set2 w (b+1) _ _).mono fun k h=>.inr (.inl ⟨rfl,h⟩)) ?_ (fun k h=>.inl ?_)
  ·exact ⟨A,n',cap,set2 x4,.inl rfl,h1,(h2.same fun k hk' hz=>(chg_set2 w (b+1) _ _).block k hz (fun h=>hk'.elim id fun h'=>hk.away 8 7 _ rfl (.inl rfl) rfl rfl (b+1) (.inl ⟨rfl,rfl⟩) (h ▸ h'))).mono fun k hk' _=>hk'.elim False.elim fun h'=>⟨.inr h',fun h=>hk.away 8 7 _ rfl (.inl rfl) rfl rfl (b+1) (.inl ⟨rfl,rfl⟩) (h ▸ h')⟩⟩
  ·exact h.elim (fun h=>.inr (.inl ⟨rfl,h⟩)) fun h=>.inl ⟨7,by simp [rn1_C],h⟩
set_option maxRecDepth 100000 in
set_option maxHeartbeats 8000000 in
theorem rn1_region {Q:Exit→Act→World→Prop} {id:Nat} (w0:World) (b:Nat) (k n:Int) (gb off m c:Nat) (g0 B0:Value) (xk0 xn0:Int) (A0:Option Addr) (m0 c0:Nat) (f0:Nf)  {s0 s3 s4 s5 s6 s7 s8 s9 s10 s11 s12 s13 s14 s15 s16 s17 s18 s19 s20 s21 s22 s23 s24 s25 s26 s27 s28 s29 s30 s31 s32 s33 s34 s35 s36 s37 s38 s39 s40 s41 s42 s43 s44 s45 s46 s47 s48 s49 s50:Value} (hx2:w0.heap[b]?=some (.cells #[.int .i64 k,.int .i64 n,.slice (some ⟨gb,off,none⟩) m c] 25 (0,0))) (hx4:w0.heap[b+1]?=some (.cells #[g0,B0] 86 (0,0))) (hgb:gb<b) (hc0:w0.cell? ⟨gb,off,none⟩=some (.int .i64 xk0)) (hc1:w0.cell? ⟨gb,off+1,none⟩=some (.int .i64 xn0)) (hc2:w0.cell? ⟨gb,off+2,none⟩=some (.slice A0 m0 c0)) (hof0:∀ w,(∀ k,k<b→w.heap[k]?=w0.heap[k]?)→w0.heap.size≤w.heap.size→Calls Try.prog 90 #[.agg #[.int .i64 xk0,.int .i64 xn0,.slice A0 m0 c0]] w (NfGot w (fun _=>False) f0)) (hm:0<m) (hn0:0≤n) (hn1:n≤1099511627776) (hf0:NfOk f0)
  (hend:∀ (w':World) (u36:Value) (u39:Value) (O4:Nat→Prop) (v8:Value) (O8:Nat→Prop),Chg (fun k=>(fun k=>k=b+1) k∨(fun _=>False) k) w0 w'→(NfV (fun _=>False) f0 u36 w' O4)→(∀ k,O4 k→k<w'.heap.size∧¬ Fix w0 (est2 8 0 (fun k=>k=b+1) (fun _=>False)) k)→(NfBoxF (b+1) (shortN (plusR n f0)) w' O8)→(∀ k,O8 k→k<w'.heap.size∧¬ Fix w0 (est2 8 0 (fun k=>k=b+1) (fun _=>False)) k)→Q .normal { tmps:=(s0 :: (.pointer (some ⟨b,0,none⟩)) :: (.pointer (some ⟨b+1,0,none⟩)) :: s3 :: s4 :: s5 :: s6 :: s7 :: s8 :: s9 :: s10 :: s11 :: s12 :: s13 :: s14 :: s15 :: s16 :: s17 :: s18 :: s19 :: s20 :: s21 :: s22 :: s23 :: s24 :: s25 :: s26 :: s27 :: s28 :: s29 :: s30 :: s31 :: (.pointer (some ⟨b,2,none⟩)) :: (.slice (some ⟨gb,off,none⟩) m c) :: (.pointer (some ⟨gb,off,none⟩)) :: (.agg #[.int .i64 xk0,.int .i64 xn0,.slice A0 m0 c0]) :: u36 :: (.pointer (some ⟨b,1,none⟩)) :: (.int .i64 n) :: u39 :: s40 :: s41 :: s42 :: s43 :: s44 :: s45 :: s46 :: s47 :: s48 :: s49 :: s50 :: []:List Value).toArray,defers:=[] } w') :
  (Code.region id rn1_ops.toArray true).wp Try.prog Q { tmps:=(s0 :: (.pointer (some ⟨b,0,none⟩)) :: (.pointer (some ⟨b+1,0,none⟩)) :: s3 :: s4 :: s5 :: s6 :: s7 :: s8 :: s9 :: s10 :: s11 :: s12 :: s13 :: s14 :: s15 :: s16 :: s17 :: s18 :: s19 :: s20 :: s21 :: s22 :: s23 :: s24 :: s25 :: s26 :: s27 :: s28 :: s29 :: s30 :: s31 :: s32 :: s33 :: s34 :: s35 :: s36 :: s37 :: s38 :: s39 :: s40 :: s41 :: s42 :: s43 :: s44 :: s45 :: s46 :: s47 :: s48 :: s49 :: s50 :: []:List Value).toArray,defers:=[] } w0:=by
 refine wp_region_est (by kernel_rfl) (est2 8 0 (fun k=>k=b+1) (fun _=>False)) rn1_C (rn1_F w0 b k n gb off m c g0 B0 xk0 xn0 A0 m0 c0 f0 ) (est2_dis (fun k h1 h2=>h2)) (est2_range (fun k h=>by have:=blk_lt hx4;omega) (fun k h=>h.elim)) (by rfl) (by kernel_rfl) (rn1_obs w0.drew b k n gb off m c g0 B0 xk0 xn0 A0 m0 c0 f0  hx2 hx4 hgb hc0 hc1 hc2 hof0 hm hn0 hn1 hf0 _ _ rfl rfl) ?_
 intro a w' O hd hs hb hf hf2 ha hsame
 have hl:=slots_eq (ops:=rn1_ops.toArray) [(32,.pointer (some ⟨b,2,none⟩)),(33,.slice (some ⟨gb,off,none⟩) m c),(34,.pointer (some ⟨gb,off,none⟩)),(35,.agg #[.int .i64 xk0,.int .i64 xn0,.slice A0 m0 c0]),(36,a.tmps.getD 36 undef),(37,.pointer (some ⟨b,1,none⟩)),(38,.int .i64 n),(39,a.tmps.getD 39 undef)] (show a.tmps.size=51 from hs) (fun i h=>hsame i h) ⟨(hf 0 _ 32 rfl rfl (by decide)).1,(hf 1 _ 33 rfl rfl (by decide)).1,(hf 2 _ 34 rfl rfl (by decide)).1,(hf 3 _ 35 rfl rfl (by decide)).1,rfl,(hf 5 _ 37 rfl rfl (by decide)).1,(hf 6 _ 38 rfl rfl (by decide)).1,rfl,trivial⟩ (by kernel_rfl)
 obtain ⟨tmps,defers⟩:=a
 obtain rfl:defers=[]:=hd
 have hl':tmps=_:=hl
 rw [hl']
 obtain ⟨⟨v8,hv8⟩,ho8⟩:=hf2 8 _ rfl rfl (by decide)
 have hb':=est2_chg hb
 refine Eq.mp ?_ (hend w' (tmps.getD 36 undef) (tmps.getD 39 undef) (O 4) v8 (O 8) ⟨hb'.os,hb'.tape,hb'.output,hb'.size,hb'.block⟩ (hf 4 _ 36 rfl rfl (by decide)).1 (hf 4 _ 36 rfl rfl (by decide)).2 hv8 ho8)
 kernel_rfl

def rn2_ops:List Oper:=[
 { dst:=some 40,op:=Go.Op.fieldAddr 25 (Go.Operand.tmp 1) 2,type:=0,pos:= "ref.go:139",after:=#[],guard:=none },
 { dst:=some 41,op:=Go.Op.load 23 (Go.Operand.tmp 40),type:=23,pos:= "ref.go:139",after:=#[{ on:=0,ground:=Go.Ground.data }],guard:=none },
 { dst:=some 42,op:=Go.Op.indexAddr 23 (Go.Operand.tmp 41) (Go.Operand.const (Go.Value.int Go.IntKind.i64 0)),type:=0,pos:= "ref.go:139",after:=#[{ on:=1,ground:=Go.Ground.data }],guard:=none },
 { dst:=some 43,op:=Go.Op.load 25 (Go.Operand.tmp 42),type:=25,pos:= "ref.go:139",after:=#[{ on:=2,ground:=Go.Ground.data }],guard:=none },
 { dst:=some 44,op:=Go.Op.call { callee:=Go.Callee.value (Go.Operand.func 90),args:=#[Go.Operand.tmp 43],argTypes:=#[25] },type:=86,pos:= "ref.go:139",after:=#[{ on:=3,ground:=Go.Ground.data }],guard:=none },
 { dst:=some 45,op:=Go.Op.fieldAddr 25 (Go.Operand.tmp 1) 2,type:=0,pos:= "ref.go:139",after:=#[],guard:=none },
 { dst:=some 46,op:=Go.Op.load 23 (Go.Operand.tmp 45),type:=23,pos:= "ref.go:139",after:=#[{ on:=5,ground:=Go.Ground.data }],guard:=none },
 { dst:=some 47,op:=Go.Op.indexAddr 23 (Go.Operand.tmp 46) (Go.Operand.const (Go.Value.int Go.IntKind.i64 1)),type:=0,pos:= "ref.go:139",after:=#[{ on:=6,ground:=Go.Ground.data }],guard:=none },
 { dst:=some 48,op:=Go.Op.load 25 (Go.Operand.tmp 47),type:=25,pos:= "ref.go:139",after:=#[{ on:=7,ground:=Go.Ground.data }],guard:=none },
 { dst:=some 49,op:=Go.Op.call { callee:=Go.Callee.value (Go.Operand.func 90),args:=#[Go.Operand.tmp 48],argTypes:=#[25] },type:=86,pos:= "ref.go:139",after:=#[{ on:=8,ground:=Go.Ground.data },{ on:=4,ground:=Go.Ground.chain }],guard:=none },
 { dst:=some 50,op:=Go.Op.call { callee:=Go.Callee.value (Go.Operand.func 91),args:=#[Go.Operand.tmp 44,Go.Operand.tmp 49],argTypes:=#[86,86] },type:=86,pos:= "ref.go:139",after:=#[{ on:=4,ground:=Go.Ground.data },{ on:=9,ground:=Go.Ground.data },{ on:=9,ground:=Go.Ground.chain }],guard:=none },
 { dst:=none,op:=Go.Op.store 86 (Go.Operand.tmp 2) (Go.Operand.tmp 50),type:=0,pos:= "ref.go:139",after:=#[{ on:=10,ground:=Go.Ground.data },{ on:=10,ground:=Go.Ground.chain },{ on:=0,ground:=Go.Ground.phase },{ on:=1,ground:=Go.Ground.phase },{ on:=2,ground:=Go.Ground.phase },{ on:=3,ground:=Go.Ground.phase },{ on:=4,ground:=Go.Ground.phase },{ on:=5,ground:=Go.Ground.phase },{ on:=6,ground:=Go.Ground.phase },{ on:=7,ground:=Go.Ground.phase },{ on:=8,ground:=Go.Ground.phase },{ on:=9,ground:=Go.Ground.phase },{ on:=10,ground:=Go.Ground.phase }],guard:=none }]
def rn2_F (w0:World) (b:Nat) (k n:Int) (gb off c:Nat) (g0 B0:Value) (xk0 xn0:Int) (A0:Option Addr) (m0 c0:Nat) (f0:Nf) (xk1 xn1:Int) (A1:Option Addr) (m1 c1:Nat) (f1:Nf)  : Nat→(Nat→Value)→Value→World→(Nat→Prop)→Prop:=fun rix=>match rix with
 | 0=>fun _ v _ _=>v=.pointer (some ⟨b,2,none⟩)
 | 1=>fun _ v _ _=>v=.slice (some ⟨gb,off,none⟩) 2 c
 | 2=>fun _ v _ _=>v=.pointer (some ⟨gb,off,none⟩)
 | 3=>fun _ v _ _=>v=.agg #[.int .i64 xk0,.int .i64 xn0,.slice A0 m0 c0]
 | 4=>fun τ v w O=>NfV (fun _=>False) f0 v w O
 | 5=>fun _ v _ _=>v=.pointer (some ⟨b,2,none⟩)
 | 6=>fun _ v _ _=>v=.slice (some ⟨gb,off,none⟩) 2 c
 | 7=>fun _ v _ _=>v=.pointer (some ⟨gb,off+3,none⟩)
 | 8=>fun _ v _ _=>v=.agg #[.int .i64 xk1,.int .i64 xn1,.slice A1 m1 c1]
 | 9=>fun τ v w O=>NfV (fun _=>False) f1 v w O
 | 10=>fun τ v w O=>NfV (fun _=>False) (shortN (orN f0 f1)) v w O
 | 11=>fun τ v w O=>NfBoxF (b+1) (shortN (orN f0 f1)) w O
 | _=>fun _ _ _ _=>True
def rn2_C:Nat→List Nat:=fun rix=>match rix with
 | 11=>[10]
 | _=>[]
theorem rn2_nw1:nwB rn2_ops.toArray 1=true:=by kernel_rfl
theorem rn2_nw2:nwB rn2_ops.toArray 2=true:=by kernel_rfl
set_option maxRecDepth 100000 in
set_option maxHeartbeats 8000000 in
theorem rn2_obs (w0:World) (b:Nat) (k n:Int) (gb off c:Nat) (g0 B0:Value) (xk0 xn0:Int) (A0:Option Addr) (m0 c0:Nat) (f0:Nf) (xk1 xn1:Int) (A1:Option Addr) (m1 c1:Nat) (f1:Nf)  (hx2:w0.heap[b]?=some (.cells #[.int .i64 k,.int .i64 n,.slice (some ⟨gb,off,none⟩) 2 c] 25 (0,0))) (hx4:w0.heap[b+1]?=some (.cells #[g0,B0] 86 (0,0))) (hgb:gb<b) (hc0:w0.cell? ⟨gb,off,none⟩=some (.int .i64 xk0)) (hc1:w0.cell? ⟨gb,off+1,none⟩=some (.int .i64 xn0)) (hc2:w0.cell? ⟨gb,off+2,none⟩=some (.slice A0 m0 c0)) (hc3:w0.cell? ⟨gb,off+3,none⟩=some (.int .i64 xk1)) (hc4:w0.cell? ⟨gb,off+4,none⟩=some (.int .i64 xn1)) (hc5:w0.cell? ⟨gb,off+5,none⟩=some (.slice A1 m1 c1)) (hof0:∀ w,(∀ k,k<b→w.heap[k]?=w0.heap[k]?)→w0.heap.size≤w.heap.size→Calls Try.prog 90 #[.agg #[.int .i64 xk0,.int .i64 xn0,.slice A0 m0 c0]] w (NfGot w (fun _=>False) f0)) (hof1:∀ w,(∀ k,k<b→w.heap[k]?=w0.heap[k]?)→w0.heap.size≤w.heap.size→Calls Try.prog 90 #[.agg #[.int .i64 xk1,.int .i64 xn1,.slice A1 m1 c1]] w (NfGot w (fun _=>False) f1)) (hf0:NfOk f0) (hf1:NfOk f1) (Q:Exit→Act→World→Prop) (a0:Act) (hi1:a0.tmps.getD 1 undef=.pointer (some ⟨b,0,none⟩)) (hi2:a0.tmps.getD 2 undef=.pointer (some ⟨b+1,0,none⟩)) :
  ObsE Try.prog rn2_ops.toArray Q (est2 11 0 (fun k=>k=b+1) (fun _=>False)) rn2_C (rn2_F w0 b k n gb off c g0 B0 xk0 xn0 A0 m0 c0 f0 xk1 xn1 A1 m1 c1 f1 ) a0 w0 rn2_ops.toArray.toList 0:=by
 have nw1:=rn2_nw1
 have nw2:=rn2_nw2
 refine ⟨?_,?_,?_,?_,?_,?_,?_,?_,?_,?_,?_,?_,trivial⟩
 ·refine ⟨⟨fun τ=>stableE_det _,leans_not⟩,?_⟩
  intro a w O hk
  have e1:a.eval (.tmp 1)=.pointer (some ⟨b,0,none⟩):=(hk.init 1 (initialB_of_nw nw1)).trans hi1
  exact obE_run (wanted_none rfl) (by unfold execOp;simp only [];rw [e1];go_simp) rfl
 ·refine ⟨⟨fun τ=>stableE_det _,leans_not⟩,?_⟩
  intro a w O hk
  have e40:a.eval (.tmp 40)=.pointer (some ⟨b,2,none⟩):=hk.fact 0 _ 40 rfl rfl rfl rfl
  have x2:=hk.world.still hx2 (fun ⟨_,h⟩=>h.elim (fun h=>by have:b=b+1:=h.2;omega) (fun h=>h.2))
  obtain ⟨p0,p1,p2,-,-,-⟩:=row3 x2
  have hfx:∀ k,k<b→w.heap[k]?=w0.heap[k]?:=fun k hkb=>hk.fix k (est2_fix (by have:=blk_lt hx2;omega) (fun h=>by omega) (fun h=>h))
  have hcc:∀ j,w.cell? ⟨gb,j,none⟩=w0.cell? ⟨gb,j,none⟩:=fun j=>cell_same (hfx _ hgb)
  have q0:=(hcc _).trans hc0
  have q1:=(hcc _).trans hc1
  have q2:=(hcc _).trans hc2
  have q3:=(hcc _).trans hc3
  have q4:=(hcc _).trans hc4
  have q5:=(hcc _).trans hc5
  exact obE_run (wanted_none rfl) (by unfold execOp;simp only [];rw [e40];go_simp) rfl
 ·refine ⟨⟨fun τ=>stableE_det _,leans_not⟩,?_⟩
  intro a w O hk
  have e41:a.eval (.tmp 41)=.slice (some ⟨gb,off,none⟩) 2 c:=hk.fact 1 _ 41 rfl rfl rfl rfl
  have x2:=hk.world.still hx2 (fun ⟨_,h⟩=>h.elim (fun h=>by have:b=b+1:=h.2;omega) (fun h=>h.2))
  obtain ⟨p0,p1,p2,-,-,-⟩:=row3 x2
  have hfx:∀ k,k<b→w.heap[k]?=w0.heap[k]?:=fun k hkb=>hk.fix k (est2_fix (by have:=blk_lt hx2;omega) (fun h=>by omega) (fun h=>h))
  have hcc:∀ j,w.cell? ⟨gb,j,none⟩=w0.cell? ⟨gb,j,none⟩:=fun j=>cell_same (hfx _ hgb)
  have q0:=(hcc _).trans hc0
  have q1:=(hcc _).trans hc1
  have q2:=(hcc _).trans hc2
  have q3:=(hcc _).trans hc3
  have q4:=(hcc _).trans hc4
  have q5:=(hcc _).trans hc5
  exact obE_run (wanted_none rfl) (by unfold execOp;simp only [];rw [e41];go_simp) rfl
 ·refine ⟨⟨fun τ=>stableE_det _,leans_not⟩,?_⟩
  intro a w O hk
  have e42:a.eval (.tmp 42)=.pointer (some ⟨gb,off,none⟩):=hk.fact 2 _ 42 rfl rfl rfl rfl
  have x2:=hk.world.still hx2 (fun ⟨_,h⟩=>h.elim (fun h=>by have:b=b+1:=h.2;omega) (fun h=>h.2))
  obtain ⟨p0,p1,p2,-,-,-⟩:=row3 x2
  have hfx:∀ k,k<b→w.heap[k]?=w0.heap[k]?:=fun k hkb=>hk.fix k (est2_fix (by have:=blk_lt hx2;omega) (fun h=>by omega) (fun h=>h))
  have hcc:∀ j,w.cell? ⟨gb,j,none⟩=w0.cell? ⟨gb,j,none⟩:=fun j=>cell_same (hfx _ hgb)
  have q0:=(hcc _).trans hc0
  have q1:=(hcc _).trans hc1
  have q2:=(hcc _).trans hc2
  have q3:=(hcc _).trans hc3
  have q4:=(hcc _).trans hc4
  have q5:=(hcc _).trans hc5
  exact obE_run (wanted_none rfl) (by unfold execOp;simp only [];rw [e42];go_simp) rfl
 ·refine ⟨⟨fun τ=>stableE_nf (fun k hk'=>hk'.elim),leans_not⟩,?_⟩
  intro a w O hk
  have e43:a.eval (.tmp 43)=.agg #[.int .i64 xk0,.int .i64 xn0,.slice A0 m0 c0]:=hk.fact 3 _ 43 rfl rfl rfl rfl
  have x2:=hk.world.still hx2 (fun ⟨_,h⟩=>h.elim (fun h=>by have:b=b+1:=h.2;omega) (fun h=>h.2))
  obtain ⟨p0,p1,p2,-,-,-⟩:=row3 x2
  have hfx:∀ k,k<b→w.heap[k]?=w0.heap[k]?:=fun k hkb=>hk.fix k (est2_fix (by have:=blk_lt hx2;omega) (fun h=>by omega) (fun h=>h))
  have hcc:∀ j,w.cell? ⟨gb,j,none⟩=w0.cell? ⟨gb,j,none⟩:=fun j=>cell_same (hfx _ hgb)
  have q0:=(hcc _).trans hc0
  have q1:=(hcc _).trans hc1
  have q2:=(hcc _).trans hc2
  have q3:=(hcc _).trans hc3
  have q4:=(hcc _).trans hc4
  have q5:=(hcc _).trans hc5
  refine obE_callNew #[.agg #[.int .i64 xk0,.int .i64 xn0,.slice A0 m0 c0]] rfl rfl rfl rfl (by simp only [List.map_cons,List.map_nil];rw [e43]) (wanted_none rfl) ((hof0 w hfx hk.world.size).mono ?_)
  intro e w' h
  exact NfV.of_got h
 ·refine ⟨⟨fun τ=>stableE_det _,leans_not⟩,?_⟩
  intro a w O hk
  have e1:a.eval (.tmp 1)=.pointer (some ⟨b,0,none⟩):=(hk.init 1 (initialB_of_nw nw1)).trans hi1
  exact obE_run (wanted_none rfl) (by unfold execOp;simp only [];rw [e1];go_simp) rfl
 ·refine ⟨⟨fun τ=>stableE_det _,leans_not⟩,?_⟩
  intro a w O hk
  have e45:a.eval (.tmp 45)=.pointer (some ⟨b,2,none⟩):=hk.fact 5 _ 45 rfl rfl rfl rfl
  have x2:=hk.world.still hx2 (fun ⟨_,h⟩=>h.elim (fun h=>by have:b=b+1:=h.2;omega) (fun h=>h.2))
  obtain ⟨p0,p1,p2,-,-,-⟩:=row3 x2
  have hfx:∀ k,k<b→w.heap[k]?=w0.heap[k]?:=fun k hkb=>hk.fix k (est2_fix (by have:=blk_lt hx2;omega) (fun h=>by omega) (fun h=>h))
  have hcc:∀ j,w.cell? ⟨gb,j,none⟩=w0.cell? ⟨gb,j,none⟩:=fun j=>cell_same (hfx _ hgb)
  have q0:=(hcc _).trans hc0
  have q1:=(hcc _).trans hc1
  have q2:=(hcc _).trans hc2
  have q3:=(hcc _).trans hc3
  have q4:=(hcc _).trans hc4
  have q5:=(hcc _).trans hc5
  exact obE_run (wanted_none rfl) (by unfold execOp;simp only [];rw [e45];go_simp) rfl
 ·refine ⟨⟨fun τ=>stableE_det _,leans_not⟩,?_⟩
  intro a w O hk
  have e46:a.eval (.tmp 46)=.slice (some ⟨gb,off,none⟩) 2 c:=hk.fact 6 _ 46 rfl rfl rfl rfl
  have x2:=hk.world.still hx2 (fun ⟨_,h⟩=>h.elim (fun h=>by have:b=b+1:=h.2;omega) (fun h=>h.2))
  obtain ⟨p0,p1,p2,-,-,-⟩:=row3 x2
  have hfx:∀ k,k<b→w.heap[k]?=w0.heap[k]?:=fun k hkb=>hk.fix k (est2_fix (by have:=blk_lt hx2;omega) (fun h=>by omega) (fun h=>h))
  have hcc:∀ j,w.cell? ⟨gb,j,none⟩=w0.cell? ⟨gb,j,none⟩:=fun j=>cell_same (hfx _ hgb)
  have q0:=(hcc _).trans hc0
  have q1:=(hcc _).trans hc1
  have q2:=(hcc _).trans hc2
  have q3:=(hcc _).trans hc3
  have q4:=(hcc _).trans hc4
  have q5:=(hcc _).trans hc5
  exact obE_run (wanted_none rfl) (by unfold execOp;simp only [];rw [e46];go_simp) rfl
 ·refine ⟨⟨fun τ=>stableE_det _,leans_not⟩,?_⟩
  intro a w O hk
  have e47:a.eval (.tmp 47)=.pointer (some ⟨gb,off+3,none⟩):=hk.fact 7 _ 47 rfl rfl rfl rfl
  have x2:=hk.world.still hx2 (fun ⟨_,h⟩=>h.elim (fun h=>by have:b=b+1:=h.2;omega) (fun h=>h.2))
  obtain ⟨p0,p1,p2,-,-,-⟩:=row3 x2
  have hfx:∀ k,k<b→w.heap[k]?=w0.heap[k]?:=fun k hkb=>hk.fix k (est2_fix (by have:=blk_lt hx2;omega) (fun h=>by omega) (fun h=>h))
  have hcc:∀ j,w.cell? ⟨gb,j,none⟩=w0.cell? ⟨gb,j,none⟩:=fun j=>cell_same (hfx _ hgb)
  have q0:=(hcc _).trans hc0
  have q1:=(hcc _).trans hc1
  have q2:=(hcc _).trans hc2
  have q3:=(hcc _).trans hc3
  have q4:=(hcc _).trans hc4
  have q5:=(hcc _).trans hc5
  exact obE_run (wanted_none rfl) (by unfold execOp;simp only [];rw [e47];go_simp) rfl
 ·refine ⟨⟨fun τ=>stableE_nf (fun k hk'=>hk'.elim),leans_not⟩,?_⟩
  intro a w O hk
  have e48:a.eval (.tmp 48)=.agg #[.int .i64 xk1,.int .i64 xn1,.slice A1 m1 c1]:=hk.fact 8 _ 48 rfl rfl rfl rfl
  have x2:=hk.world.still hx2 (fun ⟨_,h⟩=>h.elim (fun h=>by have:b=b+1:=h.2;omega) (fun h=>h.2))
  obtain ⟨p0,p1,p2,-,-,-⟩:=row3 x2
  have hfx:∀ k,k<b→w.heap[k]?=w0.heap[k]?:=fun k hkb=>hk.fix k (est2_fix (by have:=blk_lt hx2;omega) (fun h=>by omega) (fun h=>h))
  have hcc:∀ j,w.cell? ⟨gb,j,none⟩=w0.cell? ⟨gb,j,none⟩:=fun j=>cell_same (hfx _ hgb)
  have q0:=(hcc _).trans hc0
  have q1:=(hcc _).trans hc1
  have q2:=(hcc _).trans hc2
  have q3:=(hcc _).trans hc3
  have q4:=(hcc _).trans hc4
  have q5:=(hcc _).trans hc5
  refine obE_callNew #[.agg #[.int .i64 xk1,.int .i64 xn1,.slice A1 m1 c1]] rfl rfl rfl rfl (by simp only [List.map_cons,List.map_nil];rw [e48]) (wanted_none rfl) ((hof1 w hfx hk.world.size).mono ?_)
  intro e w' h
  exact NfV.of_got h
 ·refine ⟨⟨fun τ=>stableE_nf (fun k hk'=>hk'.elim),leans_not⟩,?_⟩
  intro a w O hk
  have f44:=hk.fact 4 _ 44 rfl rfl rfl rfl
  have g44:=hk.owns 4 rfl rfl
  have f49:=hk.fact 9 _ 49 rfl rfl rfl rfl
  have g49:=hk.owns 9 rfl rfl
  have x2:=hk.world.still hx2 (fun ⟨_,h⟩=>h.elim (fun h=>by have:b=b+1:=h.2;omega) (fun h=>h.2))
  obtain ⟨p0,p1,p2,-,-,-⟩:=row3 x2
  have hfx:∀ k,k<b→w.heap[k]?=w0.heap[k]?:=fun k hkb=>hk.fix k (est2_fix (by have:=blk_lt hx2;omega) (fun h=>by omega) (fun h=>h))
  have hcc:∀ j,w.cell? ⟨gb,j,none⟩=w0.cell? ⟨gb,j,none⟩:=fun j=>cell_same (hfx _ hgb)
  have q0:=(hcc _).trans hc0
  have q1:=(hcc _).trans hc1
  have q2:=(hcc _).trans hc2
  have q3:=(hcc _).trans hc3
  have q4:=(hcc _).trans hc4
  have q5:=(hcc _).trans hc5
  obtain ⟨A,n',cap,e44,h1,h2⟩:=f44
  obtain ⟨A',n'',cap',e49,h1',h2'⟩:=f49
  have hln:=h2.1.1
  have hln':=h2'.1.1
  have hok:=hf0
  have hok':=hf1
  refine obE_callNew #[.agg #[.int .i64 f0.1,.slice A n' cap],.agg #[.int .i64 f1.1,.slice A' n'' cap']] rfl rfl rfl rfl (by simp only [List.map_cons,List.map_nil];rw [show a.eval (.tmp 44)=_ from e44,show a.eval (.tmp 49)=_ from e49]) (wanted_none rfl) ((refBoth_calls A A' n' cap n'' cap' f0.1 f1.1 f0.2 f1.2 w h2.1 h2'.1 hok.1 hok.2.2.1 hok'.2.2.1 (by have:=hok.2.2.2;omega) (by have:=hok'.2.2.2;omega)).mono ?_)
  intro e w' h
  exact NfV.of_got h
 ·refine ⟨⟨fun τ=>stableE_nfboxF,leans_not⟩,?_⟩
  intro a w O hk
  have e2:a.eval (.tmp 2)=.pointer (some ⟨b+1,0,none⟩):=(hk.init 2 (initialB_of_nw nw2)).trans hi2
  have f50:=hk.fact 10 _ 50 rfl rfl rfl rfl
  have g50:=hk.owns 10 rfl rfl
  have x2:=hk.world.still hx2 (fun ⟨_,h⟩=>h.elim (fun h=>by have:b=b+1:=h.2;omega) (fun h=>h.2))
  obtain ⟨p0,p1,p2,-,-,-⟩:=row3 x2
  have hfx:∀ k,k<b→w.heap[k]?=w0.heap[k]?:=fun k hkb=>hk.fix k (est2_fix (by have:=blk_lt hx2;omega) (fun h=>by omega) (fun h=>h))
  have hcc:∀ j,w.cell? ⟨gb,j,none⟩=w0.cell? ⟨gb,j,none⟩:=fun j=>cell_same (hfx _ hgb)
  have q0:=(hcc _).trans hc0
  have q1:=(hcc _).trans hc1
  have q2:=(hcc _).trans hc2
  have q3:=(hcc _).trans hc3
  have q4:=(hcc _).trans hc4
  have q5:=(hcc _).trans hc5
  have x4:=(hk.est 11 _ rfl (.inl rfl) (b+1) (.inl ⟨rfl,rfl⟩)).trans hx4
  obtain ⟨z0,z1,y0,y1⟩:=row2 x4
  obtain ⟨A,n',cap,e50,h1,h2⟩:=f50
  refine obE_store (w':=(w.setCell ⟨b+1,0,none⟩ (.int .i64 (shortN (orN f0 f1)).1)).setCell ⟨b+1,1,none⟩ (.slice A n' cap)) (fun k=>k=b+1∨O 10 k) (wanted_none rfl) (by unfold execOp;simp only [];rw [e2,show a.eval (.tmp 50)=_ from e50];go_simp) ((chg_set2 w (b+1) _ _).mono fun k h=>.inr (.inl ⟨rfl,h⟩)) ?_ (fun k h=>.inl ?_)
  ·exact ⟨A,n',cap,set2 x4,.inl rfl,h1,(h2.same fun k hk' hz=>(chg_set2 w (b+1) _ _).block k hz (fun h=>hk'.elim id fun h'=>hk.away 11 10 _ rfl (.inl rfl) rfl rfl (b+1) (.inl ⟨rfl,rfl⟩) (h ▸ h'))).mono fun k hk' _=>hk'.elim False.elim fun h'=>⟨.inr h',fun h=>hk.away 11 10 _ rfl (.inl rfl) rfl rfl (b+1) (.inl ⟨rfl,rfl⟩) (h ▸ h')⟩⟩
  ·exact h.elim (fun h=>.inr (.inl ⟨rfl,h⟩)) fun h=>.inl ⟨10,by simp [rn2_C],h⟩
set_option maxRecDepth 100000 in
set_option maxHeartbeats 8000000 in
theorem rn2_region {Q:Exit→Act→World→Prop} {id:Nat} (w0:World) (b:Nat) (k n:Int) (gb off c:Nat) (g0 B0:Value) (xk0 xn0:Int) (A0:Option Addr) (m0 c0:Nat) (f0:Nf) (xk1 xn1:Int) (A1:Option Addr) (m1 c1:Nat) (f1:Nf)  {s0 s3 s4 s5 s6 s7 s8 s9 s10 s11 s12 s13 s14 s15 s16 s17 s18 s19 s20 s21 s22 s23 s24 s25 s26 s27 s28 s29 s30 s31 s32 s33 s34 s35 s36 s37 s38 s39 s40 s41 s42 s43 s44 s45 s46 s47 s48 s49 s50:Value} (hx2:w0.heap[b]?=some (.cells #[.int .i64 k,.int .i64 n,.slice (some ⟨gb,off,none⟩) 2 c] 25 (0,0))) (hx4:w0.heap[b+1]?=some (.cells #[g0,B0] 86 (0,0))) (hgb:gb<b) (hc0:w0.cell? ⟨gb,off,none⟩=some (.int .i64 xk0)) (hc1:w0.cell? ⟨gb,off+1,none⟩=some (.int .i64 xn0)) (hc2:w0.cell? ⟨gb,off+2,none⟩=some (.slice A0 m0 c0)) (hc3:w0.cell? ⟨gb,off+3,none⟩=some (.int .i64 xk1)) (hc4:w0.cell? ⟨gb,off+4,none⟩=some (.int .i64 xn1)) (hc5:w0.cell? ⟨gb,off+5,none⟩=some (.slice A1 m1 c1)) (hof0:∀ w,(∀ k,k<b→w.heap[k]?=w0.heap[k]?)→w0.heap.size≤w.heap.size→Calls Try.prog 90 #[.agg #[.int .i64 xk0,.int .i64 xn0,.slice A0 m0 c0]] w (NfGot w (fun _=>False) f0)) (hof1:∀ w,(∀ k,k<b→w.heap[k]?=w0.heap[k]?)→w0.heap.size≤w.heap.size→Calls Try.prog 90 #[.agg #[.int .i64 xk1,.int .i64 xn1,.slice A1 m1 c1]] w (NfGot w (fun _=>False) f1)) (hf0:NfOk f0) (hf1:NfOk f1)
  (hend:∀ (w':World) (u44:Value) (u49:Value) (u50:Value) (O4:Nat→Prop) (O9:Nat→Prop) (v11:Value) (O11:Nat→Prop),Chg (fun k=>(fun k=>k=b+1) k∨(fun _=>False) k) w0 w'→(NfV (fun _=>False) f0 u44 w' O4)→(∀ k,O4 k→k<w'.heap.size∧¬ Fix w0 (est2 11 0 (fun k=>k=b+1) (fun _=>False)) k)→(NfV (fun _=>False) f1 u49 w' O9)→(∀ k,O9 k→k<w'.heap.size∧¬ Fix w0 (est2 11 0 (fun k=>k=b+1) (fun _=>False)) k)→(NfBoxF (b+1) (shortN (orN f0 f1)) w' O11)→(∀ k,O11 k→k<w'.heap.size∧¬ Fix w0 (est2 11 0 (fun k=>k=b+1) (fun _=>False)) k)→Q .normal { tmps:=(s0 :: (.pointer (some ⟨b,0,none⟩)) :: (.pointer (some ⟨b+1,0,none⟩)) :: s3 :: s4 :: s5 :: s6 :: s7 :: s8 :: s9 :: s10 :: s11 :: s12 :: s13 :: s14 :: s15 :: s16 :: s17 :: s18 :: s19 :: s20 :: s21 :: s22 :: s23 :: s24 :: s25 :: s26 :: s27 :: s28 :: s29 :: s30 :: s31 :: s32 :: s33 :: s34 :: s35 :: s36 :: s37 :: s38 :: s39 :: (.pointer (some ⟨b,2,none⟩)) :: (.slice (some ⟨gb,off,none⟩) 2 c) :: (.pointer (some ⟨gb,off,none⟩)) :: (.agg #[.int .i64 xk0,.int .i64 xn0,.slice A0 m0 c0]) :: u44 :: (.pointer (some ⟨b,2,none⟩)) :: (.slice (some ⟨gb,off,none⟩) 2 c) :: (.pointer (some ⟨gb,off+3,none⟩)) :: (.agg #[.int .i64 xk1,.int .i64 xn1,.slice A1 m1 c1]) :: u49 :: u50 :: []:List Value).toArray,defers:=[] } w') :
  (Code.region id rn2_ops.toArray true).wp Try.prog Q { tmps:=(s0 :: (.pointer (some ⟨b,0,none⟩)) :: (.pointer (some ⟨b+1,0,none⟩)) :: s3 :: s4 :: s5 :: s6 :: s7 :: s8 :: s9 :: s10 :: s11 :: s12 :: s13 :: s14 :: s15 :: s16 :: s17 :: s18 :: s19 :: s20 :: s21 :: s22 :: s23 :: s24 :: s25 :: s26 :: s27 :: s28 :: s29 :: s30 :: s31 :: s32 :: s33 :: s34 :: s35 :: s36 :: s37 :: s38 :: s39 :: s40 :: s41 :: s42 :: s43 :: s44 :: s45 :: s46 :: s47 :: s48 :: s49 :: s50 :: []:List Value).toArray,defers:=[] } w0:=by
 refine wp_region_est (by kernel_rfl) (est2 11 0 (fun k=>k=b+1) (fun _=>False)) rn2_C (rn2_F w0 b k n gb off c g0 B0 xk0 xn0 A0 m0 c0 f0 xk1 xn1 A1 m1 c1 f1 ) (est2_dis (fun k h1 h2=>h2)) (est2_range (fun k h=>by have:=blk_lt hx4;omega) (fun k h=>h.elim)) (by rfl) (by kernel_rfl) (rn2_obs w0.drew b k n gb off c g0 B0 xk0 xn0 A0 m0 c0 f0 xk1 xn1 A1 m1 c1 f1  hx2 hx4 hgb hc0 hc1 hc2 hc3 hc4 hc5 hof0 hof1 hf0 hf1 _ _ rfl rfl) ?_
 intro a w' O hd hs hb hf hf2 ha hsame
 have hl:=slots_eq (ops:=rn2_ops.toArray) [(40,.pointer (some ⟨b,2,none⟩)),(41,.slice (some ⟨gb,off,none⟩) 2 c),(42,.pointer (some ⟨gb,off,none⟩)),(43,.agg #[.int .i64 xk0,.int .i64 xn0,.slice A0 m0 c0]),(44,a.tmps.getD 44 undef),(45,.pointer (some ⟨b,2,none⟩)),(46,.slice (some ⟨gb,off,none⟩) 2 c),(47,.pointer (some ⟨gb,off+3,none⟩)),(48,.agg #[.int .i64 xk1,.int .i64 xn1,.slice A1 m1 c1]),(49,a.tmps.getD 49 undef),(50,a.tmps.getD 50 undef)] (show a.tmps.size=51 from hs) (fun i h=>hsame i h) ⟨(hf 0 _ 40 rfl rfl (by decide)).1,(hf 1 _ 41 rfl rfl (by decide)).1,(hf 2 _ 42 rfl rfl (by decide)).1,(hf 3 _ 43 rfl rfl (by decide)).1,rfl,(hf 5 _ 45 rfl rfl (by decide)).1,(hf 6 _ 46 rfl rfl (by decide)).1,(hf 7 _ 47 rfl rfl (by decide)).1,(hf 8 _ 48 rfl rfl (by decide)).1,rfl,rfl,trivial⟩ (by kernel_rfl)
 obtain ⟨tmps,defers⟩:=a
 obtain rfl:defers=[]:=hd
 have hl':tmps=_:=hl
 rw [hl']
 obtain ⟨⟨v11,hv11⟩,ho11⟩:=hf2 11 _ rfl rfl (by decide)
 have hb':=est2_chg hb
 refine Eq.mp ?_ (hend w' (tmps.getD 44 undef) (tmps.getD 49 undef) (tmps.getD 50 undef) (O 4) (O 9) v11 (O 11) ⟨hb'.os,hb'.tape,hb'.output,hb'.size,hb'.block⟩ (hf 4 _ 44 rfl rfl (by decide)).1 (hf 4 _ 44 rfl rfl (by decide)).2 (hf 9 _ 49 rfl rfl (by decide)).1 (hf 9 _ 49 rfl rfl (by decide)).2 hv11 ho11)
 kernel_rfl

end Go.Proofs.Ytdboloabpjmgaaa

namespace Go.Proofs.Ytdboloabpjmgaaa
open Go.RowKit Go.Proofs.YtdboloabpjmgaaaW.PrintWords Go.RegionInvYtdboloabpjmgaaa Go.RegionEYtdboloabpjmgaaa

abbrev rnW (w:World) (A:Option Addr) (m c:Nat) (k n:Int):World:=(w.alloc (.cells #[.int .i64 k,.int .i64 n,.slice A m c] 25 (0,0))).alloc (.cells #[.int .i64 0,.slice none 0 0] 86 (0,0))
theorem got_boxF {w w1 w':World} {f:Nf} {O:Nat→Prop} (hb1:Below w.heap.size w w1) (h:NfBoxF (w.heap.size+1) f w' O) (hc:Chg (fun k=>(fun k=>k=w.heap.size+1) k∨(fun _=>False) k) w1 w') (hO:∀ k,O k→w.heap.size≤k) :
  ∃ A n cap,w'.heap[w.heap.size+1]?=some (.cells #[.int .i64 f.1,.slice A n cap] 86 (0,0))∧NfGot w (fun _=>False) f (.returned (.agg #[.int .i64 f.1,.slice A n cap])) w':=by
 obtain ⟨A,n,cap,hb,-,h1,h2⟩:=h
 refine ⟨A,n,cap,hb,A,n,cap,rfl,h1,h2.mono fun b hb _=>.inr (hO b hb.1),Chg.trans_below hb1 hc (fun k h=>?_) hb1.size⟩
 rcases h with h | h
 ·have:k=w.heap.size+1:=h
  omega
 ·exact h.elim
theorem rep_snoc (j:Nat) (x:Int):List.replicate (j+1) x=List.replicate j x ++ [x]:=List.replicate_succ'
set_option maxHeartbeats 8000000 in
theorem refNorm_calls (N:Nat):∀ (l:Lv),SizeOf.sizeOf l<N→Good l→∀ (A:Option Addr) (c:Nat) (w:World),LvIn w w.heap.size A c l →
  Calls Try.prog 90 #[lvV A c l] w (NfGot w (fun _=>False) (shortN (sumP l))):=by
 induction N with
 | zero=>intro l h;omega
 | succ N ih =>
  rintro ⟨lk,ln,ks⟩ hN hgood A c w hin
  have IH:=Ak ih
  have HIN:=Ak hin
  have HGOOD:=Ak hgood
  clear ih hin hgood
  unfold lvV
  simp only [Lv.kind,Lv.num,Lv.kids]
  have hb1:Below w.heap.size w (rnW w A ks.length c lk ln):=below_alloc (below_alloc (Below.refl _ _) _) _
  have hx2:(rnW w A ks.length c lk ln).heap[w.heap.size]?=some (.cells #[.int .i64 lk,.int .i64 ln,.slice A ks.length c] 25 (0,0)):=box0 w _ _
  have hx4:(rnW w A ks.length c lk ln).heap[w.heap.size+1]?=some (.cells #[.int .i64 0,.slice none 0 0] 86 (0,0)):=box1 w _ _
  have HB1:=Ak hb1
  have HX2:=Ak hx2
  have HX4:=Ak hx4
  have hz1:(rnW w A ks.length c lk ln).heap.size=w.heap.size+2:=by simp [rnW]
  have HZ1:=Ak hz1
  clear hb1 hx2 hx4 hz1
  rcases good_cases HGOOD.out with ⟨rfl,rfl,h0,h1⟩ | ⟨rfl,rfl,h0,h1⟩ | ⟨rfl,x,rfl,h0,h1,hx⟩ | ⟨rfl,x,y,rfl,hx,hy⟩
  ·
   rw [num_sum,short_num]
   obtain ⟨d0,d1,-,-⟩:=row2 HX4.out
   clear HGOOD
   go_enter Try.func90,Try.ntmps90
   go_wp2
   refine bodyPost_ret (results_c rfl _ _ (w.heap.size+1) 86 #[.int .i64 ln,.slice none 0 0] (0,0) _ rfl (box1 w _ _) Try.underlying86 rfl (by kernel_rfl)) rfl ?_
   exact ⟨none,0,0,rfl,Nat.le_refl _,IntsS.nil _ _,below_alloc (below_alloc (Below.refl _ _) _) _⟩
  ·
   obtain ⟨i,rfl⟩:=Int.eq_ofNat_of_zero_le h0
   have HE:=Ak (show shortN (sumP (.mk 2 (i:Int) []))=(0,List.replicate i (-1) ++ [0]) by rw [var_sum,short_var])
   clear HGOOD
   obtain ⟨W,hW⟩:∃ W,W=(rnW w A 0 c 2 i).alloc (.cells #[.int .i64 0,.slice none 0 0] 86 (0,0)):=⟨_,rfl⟩
   have hst:MkF w W (w.heap.size+1+1) 0 (.slice none 0 0) []:=by
    rw [hW]
    refine ⟨?_,own_nil _ _ _ _,below_alloc HB1.out _⟩
    have:=blk_new (rnW w A 0 c 2 i) (.cells #[.int .i64 0,.slice none 0 0] 86 (0,0))
    simpa [rnW] using this
   have HST:=Ak hst
   have HRES:=Ak (show W.heap[w.heap.size+1]?=some (.cells #[.int .i64 0,.slice none 0 0] 86 (0,0)) by rw [hW];exact blk_alloc HX4.out _)
   have HL:=Ak (show W.heap[w.heap.size]?=some (.cells #[.int .i64 2,.int .i64 i,.slice A 0 c] 25 (0,0)) by rw [hW];exact blk_alloc HX2.out _)
   clear hst
   go_enter Try.func90,Try.ntmps90
   go_upto_region 6 with (fail)
   rw [← hW]
   clear hW
   obtain ⟨p0,p1,p2,-,-,-⟩:=row3 HL.out
   go_upto_block 1 with (fail)
   go_cut [] (fun wr=>∃ V,Aside0 (MkF w wr (w.heap.size+1+1) 0 V (List.replicate i (-1)))∧Aside0 (wr.heap[w.heap.size+1]?=some (.cells #[.int .i64 0,.slice none 0 0] 86 (0,0))))
   case first =>
    clear p0 p1 p2
    go_wp2
    go_loopw [16] (fun k wr=>∃ (j:Nat) (V:Value),k=.int .i64 j∧j≤i∧Aside0 (MkF w wr (w.heap.size+1+1) 0 V (List.replicate j (-1)))∧Aside0 (wr.heap[w.heap.size+1]?=some (.cells #[.int .i64 0,.slice none 0 0] 86 (0,0)))) (fun k _=>i - (intOf k).toNat)
    case atStart=>exact ⟨0,_,rfl,Nat.zero_le _,HST,HRES⟩
    case round =>
     clear HST HRES HL
     obtain ⟨j,V,rfl,hj,HST,HRES⟩:=hrel
     by_cases hlt:j<i
     ·obtain ⟨d0,d1,-,e1⟩:=row2 HST.out.box
      obtain ⟨A0,c0,rfl⟩:=own_slice HST.out.row
      obtain ⟨L,hL⟩:∃ L,L=(List.replicate j (-1:Int)).length:=⟨_,rfl⟩
      rw [← hL] at HST d1
      have HLJ:=Ak (show L=j by rw [hL,List.length_replicate])
      have HT:=Ak (rep_snoc j (-1))
      have hbase:w.heap.size+1+1+1≤wr.heap.size:=blk_lt HST.out.box
      clear hL
      go_wp2_with (first
       | (at_builtin;go_must (refine print_append_num (w0:=wr) (w.heap.size+1+1+1) rfl (.tmp 19) (.tmp 20) 84 3 .i64 8 rfl Try.underlying84 infoI64 (by decide) (.slice A0 L c0) (List.replicate j (-1)) (-1) rfl rfl (by have h:=HST.out.row;rw [HLJ.out,List.length_replicate] at h;rw [HLJ.out,List.length_replicate];exact h) (Below.refl _ _) hbase (by rw [List.length_replicate];omega) ?_;intro v1 w1 ho _ hg _;obtain ⟨A6,L6,c6,rfl,-⟩:=own_slice' ho;have HG:=Ak (HST.out.grow (Nat.le_of_lt (by omega)) ho hg);have HR6:=Ak (HG.out.2.1 _ _ (by omega) HRES.out);obtain ⟨d0,d1,-,e1⟩:=row2 HG.out.1;clear ho hg)))
      go_roundw
      case rel =>
       refine ⟨j+1,.slice A6 L6 c6,by go_num,by omega,⟨?_⟩,⟨((chg_set w1 (w.heap.size+1+1) 1 _).block _ (blk_lt HR6.out) (by omega)).trans HR6.out⟩⟩
       rw [HT.out]
       exact HG.out.2.2
      case measure=>(simp [intOf];try omega)
     ·obtain rfl:j=i:=by omega
      have hlt':decide ((j:Int)<j)=false:=by simp
      go_wp2
      go_meet
      case rel=>exact ⟨_,HST,HRES⟩
   case rest =>
    clear HST HRES HL p0 p1 p2
    obtain ⟨V,HST,HRES⟩:=hcut
    obtain ⟨d0,d1,-,e1⟩:=row2 HST.out.box
    obtain ⟨A0,c0,rfl⟩:=own_slice HST.out.row
    obtain ⟨L,hL⟩:∃ L,L=(List.replicate i (-1:Int)).length:=⟨_,rfl⟩
    rw [← hL] at HST d1
    have HLJ:=Ak (show L=i by rw [hL,List.length_replicate])
    have hbase:w.heap.size+1+1+1≤wc.heap.size:=blk_lt HST.out.box
    have HLN:=Ak (show (List.replicate i (-1:Int) ++ [0]).length=i+1 by simp)
    clear hL
    go_upto_region 11 with (first
     | (at_builtin;go_must (refine print_append_num (w0:=wc) (w.heap.size+1+1+1) rfl (.tmp 25) (.tmp 26) 84 3 .i64 8 rfl Try.underlying84 infoI64 (by decide) (.slice A0 L c0) (List.replicate i (-1)) 0 rfl rfl (by have h:=HST.out.row;rw [HLJ.out,List.length_replicate] at h;rw [HLJ.out,List.length_replicate];exact h) (Below.refl _ _) hbase (by rw [List.length_replicate];omega) ?_;intro v1 w1 ho _ hg _;obtain ⟨A6,c6,hv6,hcap6,hi6⟩:=IntsS.of_own ho;rw [HLN.out] at hv6 hcap6 hi6;subst hv6;have HCAP6:=Ak hcap6;have HI6:=Ak hi6;clear hcap6 hi6;have HG:=Ak (HST.out.grow (Nat.le_of_lt (by omega)) ho hg);have HR6:=Ak (HG.out.2.1 _ _ (by omega) HRES.out);obtain ⟨d0,d1,-,e1⟩:=row2 HG.out.1;clear ho hg)))
    have HM:=Ak HG.out.2.2
    have hch0:=chg_set w1 (w.heap.size+1+1) 1 (.slice A6 (i+1) c6)
    have HR7:=Ak ((hch0.block _ (blk_lt HR6.out) (by omega)).trans HR6.out)
    have HI7:=Ak (HI6.out.same fun b hb hz=>hch0.block b hz (by omega))
    obtain ⟨W2,hW2⟩:∃ W2,W2=w1.setCell ⟨w.heap.size+1+1,1,none⟩ (.slice A6 (i+1) c6):=⟨_,rfl⟩
    rw [← hW2] at HM HR7 HI7 ⊢
    clear hW2 hch0 HG HR6 HI6 d0 d1 e1
    obtain ⟨d0,d1,-,-⟩:=row2 HM.out.box
    obtain ⟨f0,f1,g0,g1⟩:=row2 HR7.out
    go_wp2
    have hch:=chg_set2 W2 (w.heap.size+1) (.int .i64 0) (.slice A6 (i+1) c6)
    refine bodyPost_ret (results_c rfl _ _ (w.heap.size+1) 86 #[.int .i64 0,.slice A6 (i+1) c6] (0,0) _ rfl (set2 HR7.out) Try.underlying86 rfl (by kernel_rfl)) rfl ?_
    rw [HE.out]
    exact ⟨A6,i+1,c6,rfl,HCAP6.out,(HI7.out.same fun b hb hz=>hch.block b hz (by omega)).mono fun b hb _=>.inr (by omega),Chg.trans_below HM.out.bel hch (fun _ e=>by omega) HM.out.bel.size⟩
  ·
   obtain ⟨A',c',hcs,hxin⟩:=HIN.out.kid 0 x rfl
   obtain ⟨gb,off,rfl,hgb⟩:=kid_ptr hcs
   have hc:=lit_kid (hcs.same (w':=rnW w (some ⟨gb,off,none⟩) [x].length c 3 ln) fun k hk _=>HB1.out.block k hk)
   have hsok:NfOk (sumP x):=ofP_ok (fun _ h=>by cases h) hx
   have HOK:=Ak (short_ok hsok)
   have HE:=Ak (show shortN (sumP (.mk 3 ln [x]))=shortN (plusR ln (shortN (sumP x))) by rw [short_plus hsok (by omega) h1];show shortN (ofP [] _)=_;rw [ofP_succ];rfl)
   have HXIN:=Ak hxin
   have HC:=Ak hc
   have HX:=Ak hx
   clear hcs hc hx hxin HGOOD hsok
   rw [HE.out]
   go_enter Try.func90,Try.ntmps90
   go_upto_region 13 with (fail)
   refine rn1_region (rnW w (some ⟨gb,off,none⟩) [x].length c 3 ln) w.heap.size 3 ln gb off 1 c (.int .i64 0) (.slice none 0 0) x.kind x.num A' x.kids.length c' (shortN (sumP x)) HX2.out HX4.out hgb HC.out.1 HC.out.2.1 HC.out.2.2 (fun w5 hw5 hz5=>?_) (by decide) (by omega) h1 HOK.out ?_
   ·have hkid:=kid_small (k:=3) (n:=ln) (ks:=[x]) (i:=0) (x:=x) rfl
    exact IH.out x (by omega) HX.out A' c' w5 (LvS.all (HXIN.out.same fun k hk _=>(hw5 k hk).trans (HB1.out.block k hk)))
   ·intro w' u36 u39 O4 v8 O8 hch _ _ hbox ho8
    obtain ⟨A6,n6,cap6,hb6,hgot⟩:=got_boxF HB1.out hbox hch (fun k hk=>Nat.le_of_succ_le (fix_not (ho8 k hk).2 (fun i h=>h.elim And.right fun h=>h.2.elim) (by rw [HZ1.out];omega)))
    have HG:=Ak hgot
    have HB6:=Ak hb6
    clear hch hbox ho8 hb6 hgot
    go_wp2
    exact bodyPost_ret (results_c rfl _ _ (w.heap.size+1) 86 #[.int .i64 (shortN (plusR ln (shortN (sumP x)))).1,.slice A6 n6 cap6] (0,0) _ rfl HB6.out Try.underlying86 rfl (by kernel_rfl)) rfl HG.out
  ·
   obtain ⟨A',c',hcs,hxin⟩:=HIN.out.kid 0 x rfl
   obtain ⟨A'',c'',hcs',hyin⟩:=HIN.out.kid 1 y rfl
   obtain ⟨gb,off,rfl,hgb⟩:=kid_ptr hcs
   have hc:=lit_kid (hcs.same (w':=rnW w (some ⟨gb,off,none⟩) [x,y].length c 4 ln) fun k hk _=>HB1.out.block k hk)
   have hc':=lit_kid (hcs'.same (w':=rnW w (some ⟨gb,off,none⟩) [x,y].length c 4 ln) fun k hk _=>HB1.out.block k hk)
   have hsx:NfOk (sumP x):=ofP_ok (fun _ h=>by cases h) hx
   have hsy:NfOk (sumP y):=ofP_ok (fun _ h=>by cases h) hy
   have HOK:=Ak (short_ok hsx)
   have HOK':=Ak (short_ok hsy)
   have HE:=Ak (show shortN (sumP (.mk 4 ln [x,y]))=shortN (orN (shortN (sumP x)) (shortN (sumP y))) by rw [short_or hsx hsy];show shortN (ofP [] _)=_;rw [ofP_max];rfl)
   have HXIN:=Ak hxin
   have HYIN:=Ak hyin
   have HC:=Ak hc
   have HC':=Ak hc'
   have HX:=Ak hx
   have HY:=Ak hy
   clear hcs hc hx hxin hcs' hc' hy hyin HGOOD hsx hsy
   rw [HE.out]
   go_enter Try.func90,Try.ntmps90
   go_upto_region 14 with (fail)
   refine rn2_region (rnW w (some ⟨gb,off,none⟩) [x,y].length c 4 ln) w.heap.size 4 ln gb off c (.int .i64 0) (.slice none 0 0) x.kind x.num A' x.kids.length c' (shortN (sumP x)) y.kind y.num A'' y.kids.length c'' (shortN (sumP y)) HX2.out HX4.out hgb HC.out.1 HC.out.2.1 HC.out.2.2 HC'.out.1 HC'.out.2.1 HC'.out.2.2 (fun w5 hw5 hz5=>?_) (fun w5 hw5 hz5=>?_) HOK.out HOK'.out ?_
   ·have hkid:=kid_small (k:=4) (n:=ln) (ks:=[x,y]) (i:=0) (x:=x) rfl
    exact IH.out x (by omega) HX.out A' c' w5 (LvS.all (HXIN.out.same fun k hk _=>(hw5 k hk).trans (HB1.out.block k hk)))
   ·have hkid:=kid_small (k:=4) (n:=ln) (ks:=[x,y]) (i:=1) (x:=y) rfl
    exact IH.out y (by omega) HY.out A'' c'' w5 (LvS.all (HYIN.out.same fun k hk _=>(hw5 k hk).trans (HB1.out.block k hk)))
   ·intro w' u44 u49 u50 O4 O9 v11 O11 hch _ _ _ _ hbox ho11
    obtain ⟨A6,n6,cap6,hb6,hgot⟩:=got_boxF HB1.out hbox hch (fun k hk=>Nat.le_of_succ_le (fix_not (ho11 k hk).2 (fun i h=>h.elim And.right fun h=>h.2.elim) (by rw [HZ1.out];omega)))
    have HG:=Ak hgot
    have HB6:=Ak hb6
    clear hch hbox ho11 hb6 hgot
    go_wp2
    exact bodyPost_ret (results_c rfl _ _ (w.heap.size+1) 86 #[.int .i64 (shortN (orN (shortN (sumP x)) (shortN (sumP y)))).1,.slice A6 n6 cap6] (0,0) _ rfl HB6.out Try.underlying86 rfl (by kernel_rfl)) rfl HG.out
end Go.Proofs.Ytdboloabpjmgaaa

namespace Go.Proofs.Ytdboloabpjmgaaa
open Go.RowKit Go.Proofs.YtdboloabpjmgaaaW.PrintWords Go.RegionInvYtdboloabpjmgaaa Go.RegionEYtdboloabpjmgaaa

theorem varL_zero {k:Int} {i:Nat} (h:k<1) (hi:i≤1000):varL k i=.mk 2 i []:=by unfold varL;rw [plP_own h,own_var hi]
theorem varL_pos {k:Int} {i:Nat} (h:0<k) (hi:i≤1000):varL k i=.mk 3 k [.mk 2 i []]:=by unfold varL;rw [plP_new (by omega) (by simp [Lv.kind]),own_var hi]
structure PF (w wr:World) (c:Int) (B:Value) (V:Value) (xs:List Lv):Prop where
 x1:wr.heap[w.heap.size]?=some (.cells #[.int .i64 c,B] 86 (0,0))
 x2:wr.heap[w.heap.size+1]?=some (.cells #[.int .i64 0,.int .i64 0,.slice none 0 0] 25 (0,0))
 kids:KidsAt wr (w.heap.size+2) V xs
 bel:Below w.heap.size w wr
theorem PF.later {w wr w':World} {c:Int} {B V:Value} {xs:List Lv} (h:PF w wr c B V xs) (hb:Below wr.heap.size wr w'):PF w w' c B V xs:=
 ⟨blk_below h.x1 hb,blk_below h.x2 hb,h.kids.later hb,below_then h.bel h.bel.size hb⟩
theorem PF.base {w wr:World} {c:Int} {B V:Value} {xs:List Lv} (h:PF w wr c B V xs):w.heap.size+2≤wr.heap.size:=by have:=blk_lt h.x2;omega
theorem pf_push {w w5 w6:World} {c:Int} {B V v6:Value} {xs:List Lv} {A5:Option Addr} {c5:Nat} {x:Lv} {cells:List Value} {fA:Nat→Option Addr} {fc:Nat→Nat} (h:PF w w5 c B V xs)
  (ho:w5.ownsRow (w.heap.size+2) 25 3 V xs.length cells)
  (hk:∀ (i:Nat) (x:Lv),xs[i]?=some x→cells[i * 3]?=some (.int .i64 x.kind)∧cells[i * 3+1]?=some (.int .i64 x.num)∧cells[i * 3+2]?=some (.slice (fA i) x.kids.length (fc i))∧LvS w5 (fun b=>w.heap.size+2≤b∧V.ownBlock≠some b) (fA i) (fc i) x)
  (hl:LvS w5 (fun b=>w.heap.size+2≤b∧V.ownBlock≠some b) A5 c5 x)
  (ho1:w6.ownsRow (w.heap.size+2) 25 3 v6 (xs.length+1) (cells ++ [.int .i64 x.kind,.int .i64 x.num,.slice A5 x.kids.length c5])) (hg:w5.grownBy w6 V.ownBlock) (hat:v6.ownBlock=V.ownBlock∨∃ b,v6.ownBlock=some b∧w5.heap.size≤b):PF w w6 c B v6 (xs ++ [x]):=by
 have far:∀ k,k<w.heap.size+2→some k≠V.ownBlock:=fun k hk e=>by have:=own_base ho k e.symm;omega
 refine ⟨?_,?_,KidsAt.push ho hk hl ho1 hg hat,⟨hg.os.trans h.bel.os,hg.tape.trans h.bel.tape,hg.output.trans h.bel.output,Nat.le_trans h.bel.size hg.size,fun i hi=>?_⟩⟩
 ·rw [hg.block _ (blk_lt h.x1) (far _ (by omega))];exact h.x1
 ·rw [hg.block _ (blk_lt h.x2) (far _ (by omega))];exact h.x2
 ·rw [hg.block i (Nat.lt_of_lt_of_le hi h.bel.size) (far i (by omega))];exact h.bel.block i hi
theorem freshF_away {w wr w5:World} {c:Int} {B V:Value} {xs:List Lv} {A:Option Addr} {c5:Nat} {x:Lv} {m:Nat} (h:PF w wr c B V xs) (hm:wr.heap.size≤m) (hl:LvS w5 (fun b=>False∨m≤b) A c5 x):LvS w5 (fun b=>w.heap.size+2≤b∧V.ownBlock≠some b) A c5 x:=by
 have hb:=h.base
 obtain ⟨cells,fA,fc,ho,_⟩:=h.kids
 refine hl.mono fun b hb' _=>?_
 rcases hb' with hb' | hb'
 ·exact hb'.elim
 ·exact ⟨by omega,fun e=>by have:=own_lt ho b e;omega⟩
set_option maxHeartbeats 8000000 in
theorem refLevel_calls (A:Option Addr) (n cap:Nat) (c:Int) (ks:List Int) (w:World) (hr:ReadsInt w .i64 A n ks) (hok:NfOk (c,ks)) (hlen:n≤1001) (hne:partsN (c,ks)≠[]) :
  Calls Try.prog 93 #[.agg #[.int .i64 c,.slice A n cap]] w (LvGot w (fun _=>False) (lvlN (c,ks))):=by
 have HR:=Ak hr
 have HN:=Ak hr.1
 have HOK:=Ak hok
 have HNE:=Ak hne
 have hc0:=hok.1
 clear hr hok hne
 obtain ⟨W,hW⟩:∃ W,W=((w.alloc (.cells #[.int .i64 c,.slice A n cap] 86 (0,0))).alloc (.cells #[.int .i64 0,.int .i64 0,.slice none 0 0] 25 (0,0))):=⟨_,rfl⟩
 have hst:PF w W c (.slice A n cap) (.slice none 0 0) []:=by
  rw [hW]
  exact ⟨box0 w _ _,box1 w _ _,KidsAt.nil _ _,below_alloc (below_alloc (Below.refl _ _) _) _⟩
 have HST:=Ak hst
 clear hst
 go_enter Try.func93,Try.ntmps93
 go_upto_region 2 with (fail)
 rw [← hW]
 clear hW
 obtain ⟨d0,d1,-,-⟩:=row2 HST.out.x1
 go_cut [18] (fun v wr=>v=.bool (decide (0<c∨ks=[]))∧wr=W)
 case first =>
  by_cases hc:0<c
  ·have HD:=Ak (show decide (0<c∨ks=[])=true from decide_eq_true (.inl hc))
   go_wp2
   go_meet
   case rel=>exact ⟨by rw [HD.out],by first | rfl | trivial⟩
  ·by_cases hn:n=0
   ·have HD:=Ak (show decide (0<c∨ks=[])=true from decide_eq_true (.inr (List.eq_nil_of_length_eq_zero (by rw [HN.out];exact hn))))
    have hb:((n:Int) == 0)=true:=by simp [hn]
    clear hn
    go_wp2
    go_meet
    case rel=>exact ⟨by rw [HD.out],by first | rfl | trivial⟩
   ·have HD:=Ak (show decide (0<c∨ks=[])=false from decide_eq_false fun h=>h.elim hc fun h=>hn (by rw [← HN.out,h];rfl))
    have hb:((n:Int) == 0)=false:=by simp;omega
    go_wp2
    go_meet
    case rel=>exact ⟨by rw [HD.out],by first | rfl | trivial⟩
 case rest =>
  obtain ⟨rfl,rfl⟩:=hcut
  obtain ⟨bb,hbb⟩:∃ bb,bb=decide (0<c∨ks=[]):=⟨_,rfl⟩
  rw [← hbb]
  have HP0:=Ak (show partsK (c,ks) 0=(if bb=true then [.mk 1 c []] else []) by
   rw [partsK,hbb];simp)
  clear hbb
  go_upto_if 18 with (fail)
  go_cut [3] (fun v wr=>Aside0 (PF w wr c (.slice A n cap) v (partsK (c,ks) 0)))
  case first =>
   cases bb with
   | true =>
    have HL5:=Ak (show LvS wc (fun b=>w.heap.size+2≤b∧(Value.slice none 0 0).ownBlock≠some b) none 0 (.mk 1 c []) from LvS.leaf _ _ _ _)
    go_wp2_with (first
     | (at_builtin;go_must (obtain ⟨cells,fA,fc,hown,hkids⟩:=HST.out.kids;refine print_append_cells (w0:=wc) (W:=wc) (w.heap.size+2) rfl (.tmp 19) (.tmp 23) 23 25 _ 3 40 rfl Try.underlying23 infoLv rfl (by decide) (by decide) (.slice none 0 0) 0 cells [.int .i64 1,.int .i64 c,.slice none 0 0] rfl rfl rfl (by simp [Value.oneCell']) hown (Below.refl _ _) HST.out.base (by decide) ?_;intro v6 w6 ho6 _ hg6 hat6;have ST6:=Ak (pf_push HST.out hown hkids HL5.out ho6 hg6 hat6);obtain ⟨A6,L6,c6,rfl,-⟩:=own_slice' ho6;clear hown hkids ho6 hg6 hat6)))
    go_meet
    case rel=>exact ⟨by rw [HP0.out];exact ST6.out⟩
   | false =>
    go_wp2
    go_meet
    case rel=>exact ⟨by rw [HP0.out];exact HST.out⟩
  case rest =>
   clear HST HP0 d0 d1
   obtain ⟨HST⟩:=hcut
   have HST:=Ak HST
   obtain ⟨d0,d1,-,-⟩:=row2 HST.out.x1
   go_upto_block 0 with (fail)
   go_cut [3] (fun v wr=>Aside0 (PF w wr c (.slice A n cap) v (partsN (c,ks))))
   case first =>
    go_wp2
    go_loopw [28,3] (fun i v wr=>∃ (j:Nat),i=.int .i64 j∧j≤n∧Aside0 (PF w wr c (.slice A n cap) v (partsK (c,ks) j))) (fun i _ _=>n - (intOf i).toNat)
    case atStart=>exact ⟨0,rfl,Nat.zero_le _,HST⟩
    case round =>
     clear HST d0 d1
     obtain ⟨j,rfl,hj,HST⟩:=hrel
     by_cases hlt:j<n
     ·obtain ⟨ad,rfl,hcx⟩:=(HR.out.below HST.out.bel).at_ j (by omega) (by omega)
      rw [Int.toNat_natCast] at hcx
      obtain ⟨y,hy⟩:∃ y,y=rd ks j:=⟨_,rfl⟩
      rw [← hy] at hcx
      have hyr:-1≤y∧y≤1099511627776:=by
       have:=atP_ok HOK.out.2.2.1 j
       rw [atP_lt (by rw [HN.out];exact hlt),← hy] at this
       exact this
      have HPK:=Ak (show partsK (c,ks) (j+1)=partsK (c,ks) j ++ (if 0≤y then [varL y j] else []) by rw [partsK,hy])
      have hpl:=parts_len (c,ks) j
      clear hy
      have hjn:j≤1000:=by omega
      obtain ⟨xs,hxs⟩:∃ xs,xs=partsK (c,ks) j:=⟨_,rfl⟩
      rw [← hxs] at HST HPK hpl
      clear hxs
      obtain ⟨cl0,fA0,fc0,hown0,-⟩:=HST.out.kids
      obtain ⟨A0,L0,cp0,rfl,-⟩:=own_slice' hown0
      clear hown0
      obtain ⟨W4,hW4⟩:∃ W4,W4=wr.alloc (.cells #[.int .i64 2,.int .i64 j,.slice none 0 0] 25 (0,0)):=⟨_,rfl⟩
      have HBX:=Ak (show W4.heap[wr.heap.size]?=some (.cells #[.int .i64 2,.int .i64 j,.slice none 0 0] 25 (0,0)) by rw [hW4];exact blk_new _ _)
      have HST4:=Ak (HST.out.later (show Below wr.heap.size wr W4 by rw [hW4];exact below_alloc (Below.refl _ _) _))
      have HB4:=Ak (show Below wr.heap.size wr W4 by rw [hW4];exact below_alloc (Below.refl _ _) _)
      have HZ4:=Ak (show W4.heap.size=wr.heap.size+1 by rw [hW4];simp)
      go_upto_region 8 with (fail)
      rw [← hW4]
      clear hW4
      obtain ⟨b0,b1,b2,f0,f1,f2⟩:=row3 HBX.out
      by_cases hy0:0<y
      ·have HPK':=Ak (show partsK (c,ks) (j+1)=xs ++ [.mk 3 y [.mk 2 j []]] by rw [HPK.out,if_pos (by omega),varL_pos hy0 hjn])
       have hpz:=blk_lt HBX.out
       go_upto_region 10 with (fail)
       have hs3:=set3 (a:=.int .i64 3) (b:=.int .i64 y) (c:=.slice (some ⟨W4.heap.size,0,none⟩) 1 1) HBX.out
       have hch:=chg_set3 W4 wr.heap.size (.int .i64 3) (.int .i64 y) (.slice (some ⟨W4.heap.size,0,none⟩) 1 1)
       obtain ⟨W5,hW5⟩:∃ W5,W5=((W4.setCell ⟨wr.heap.size,0,none⟩ (.int .i64 3)).setCell ⟨wr.heap.size,1,none⟩ (.int .i64 y)).setCell ⟨wr.heap.size,2,none⟩ (.slice (some ⟨W4.heap.size,0,none⟩) 1 1):=⟨_,rfl⟩
       have hz5:W5.heap.size=W4.heap.size:=by rw [hW5];simp [World.setCell]
       rw [← hW5] at hs3 hch ⊢
       clear hW5
       obtain ⟨W6,hW6⟩:∃ W6,W6=W5.alloc (.cells #[.int .i64 2,.int .i64 j,.slice none 0 0] 25 (0,0)):=⟨_,rfl⟩
       have HBX6:=Ak (show W6.heap[wr.heap.size]?=some (.cells #[.int .i64 3,.int .i64 y,.slice (some ⟨W4.heap.size,0,none⟩) 1 1] 25 (0,0)) by rw [hW6];exact blk_alloc hs3 _)
       have hb6:Below wr.heap.size wr W6:=by rw [hW6];exact Chg.trans_below HB4.out (chg_trans hch (chg_alloc _ _ _)) (fun _ e=>by omega) HB4.out.size
       have HST6:=Ak (HST.out.later hb6)
       have hk6:W6.heap[W4.heap.size]?=some (.cells #[.int .i64 2,.int .i64 j,.slice none 0 0] 25 (0,0)):=by rw [hW6,← hz5];exact blk_new _ _
       have HL6:=Ak (freshF_away HST.out (Nat.le_refl _) (show LvS W6 (fun b=>False∨wr.heap.size≤b) (some ⟨W4.heap.size,0,none⟩) 1 (.mk 3 y [.mk 2 j []]) from LvS.one (x:=.mk 2 j []) hk6 (LvS.leaf _ _ _ _) (.inr (by omega)) 3 y))
       rw [← hW6]
       clear hW6 hs3 hch hb6 hk6 hz5 b0 b1 b2 f0 f1 f2
       obtain ⟨b0,b1,b2,-,-,-⟩:=row3 HBX6.out
       have hy1:0≤y:=by omega
       go_wp2_with (first
        | (at_builtin;go_must (obtain ⟨cells,fA,fc,hown,hkids⟩:=HST6.out.kids;refine print_append_cells (w0:=W6) (W:=W6) (w.heap.size+2) rfl (.tmp 43) (.tmp 45) 23 25 _ 3 40 rfl Try.underlying23 infoLv rfl (by decide) (by decide) (.slice A0 L0 cp0) xs.length cells [.int .i64 3,.int .i64 y,.slice (some ⟨W4.heap.size,0,none⟩) 1 1] rfl rfl rfl (by simp [Value.oneCell']) hown (Below.refl _ _) HST6.out.base (by omega) ?_;intro v6 w6 ho6 _ hg6 hat6;have ST6:=Ak (pf_push HST6.out hown hkids HL6.out ho6 hg6 hat6);obtain ⟨A6,L6,c6,rfl,-⟩:=own_slice' ho6;clear hown hkids ho6 hg6 hat6)))
       go_roundw
       case rel=>exact ⟨j+1,by go_num,by omega,⟨by rw [HPK'.out];exact ST6.out⟩⟩
       case measure=>(simp [intOf];try omega)
      ·by_cases hy1:0≤y
       ·have HPK':=Ak (show partsK (c,ks) (j+1)=xs ++ [.mk 2 j []] by rw [HPK.out,if_pos hy1,varL_zero (by omega) hjn])
        have HL5:=Ak (show LvS W4 (fun b=>w.heap.size+2≤b∧(Value.slice A0 L0 cp0).ownBlock≠some b) none 0 (.mk 2 j []) from LvS.leaf _ _ _ _)
        go_wp2_with (first
         | (at_builtin;go_must (obtain ⟨cells,fA,fc,hown,hkids⟩:=HST4.out.kids;refine print_append_cells (w0:=W4) (W:=W4) (w.heap.size+2) rfl (.tmp 43) (.tmp 45) 23 25 _ 3 40 rfl Try.underlying23 infoLv rfl (by decide) (by decide) (.slice A0 L0 cp0) xs.length cells [.int .i64 2,.int .i64 j,.slice none 0 0] rfl rfl rfl (by simp [Value.oneCell']) hown (Below.refl _ _) HST4.out.base (by omega) ?_;intro v6 w6 ho6 _ hg6 hat6;have ST6:=Ak (pf_push HST4.out hown hkids HL5.out ho6 hg6 hat6);obtain ⟨A6,L6,c6,rfl,-⟩:=own_slice' ho6;clear hown hkids ho6 hg6 hat6)))
        go_roundw
        case rel=>exact ⟨j+1,by go_num,by omega,⟨by rw [HPK'.out];exact ST6.out⟩⟩
        case measure=>(simp [intOf];try omega)
       ·have HPK':=Ak (show partsK (c,ks) (j+1)=xs by rw [HPK.out,if_neg hy1,List.append_nil])
        go_wp2
        go_roundw
        case rel=>exact ⟨j+1,by go_num,by omega,⟨by rw [HPK'.out];exact HST4.out⟩⟩
        case measure=>(simp [intOf];try omega)
     ·obtain rfl:j=n:=by omega
      have hlt':decide ((j:Int)<j)=false:=by simp
      go_wp2
      go_meet
      case rel =>
       refine ⟨?_⟩
       unfold partsN
       rw [show ((c,ks):Nf).2.length=j from HN.out]
       exact HST.out
   case rest =>
    clear HST d0 d1
    obtain ⟨HST⟩:=hcut
    cases hp:partsN (c,ks) with
    | nil=>exact absurd hp HNE.out
    | cons x r =>
     have HE:=Ak (show lvlN (c,ks)=foldM x r by unfold lvlN;rw [hp])
     rw [hp] at HST
     have HST:=Ak HST
     clear hp
     obtain ⟨A9,c9,rfl,hlv⟩:=HST.out.kids.level
     have HLV:=Ak (hlv 0 0)
     have hcap:=HLV.out.len
     simp only [Lv.kids,List.length_cons] at hcap
     obtain ⟨A',c',hcs,hx0⟩:=HLV.out.kid 0 x rfl
     obtain ⟨gb,off,rfl,hgb⟩:=kid_ptr hcs
     obtain ⟨g0,g1,g2⟩:=lit_kid hcs
     simp only [Nat.zero_mul,Nat.add_zero] at g0 g1 g2
     have HX0:=Ak hx0
     have hgl:gb<wc.heap.size:=World.block_lt_of_cell? wc _ g0
     have hbase:=HST.out.base
     obtain ⟨N,hN⟩:∃ N,N=r.length:=⟨_,rfl⟩
     have hlen2:(x :: r).length=N+1:=by rw [hN];rfl
     rw [hlen2]
     rw [← hN] at hcap
     have HNR:=Ak hN
     clear hcs hx0 hlv hlen2 hN
     go_upto_block 2 with (fail)
     obtain ⟨P9,hP9⟩:∃ P9:Option Addr,P9=(if c9=1 then some ⟨gb,off,none⟩ else some ⟨gb,off+3,none⟩):=⟨_,rfl⟩
     rw [← hP9]
     have HP9:=Ak hP9
     have hout:OutB (w.heap.size+2) wc (wc.alloc (.cells #[.int .i64 x.kind,.int .i64 x.num,.slice A' x.kids.length c'] 25 (0,0))) (foldM x (r.take 0)) A' c':=by
      have hb:Below wc.heap.size wc (wc.alloc (.cells #[.int .i64 x.kind,.int .i64 x.num,.slice A' x.kids.length c'] 25 (0,0))):=below_alloc (Below.refl _ _) _
      exact ⟨blk_new _ _,((HX0.out.mono (S':=fun b=>w.heap.size+2≤b∧b≠wc.heap.size) fun b hb hz=>⟨hb,by omega⟩).later hb),hb⟩
     have HOUT:=Ak hout
     clear hP9 hout g0 g1 g2
     go_wp2
     go_loopw [54] (fun i wr=>∃ (j:Nat) (A6:Option Addr) (c6:Nat),i=.int .i64 j∧j≤N∧Aside0 (OutB (w.heap.size+2) wc wr (foldM x (r.take j)) A6 c6)) (fun i _=>N - (intOf i).toNat)
     case atStart=>exact ⟨0,A',c',rfl,Nat.zero_le _,HOUT⟩
     case round =>
      clear HOUT
      obtain ⟨j,A6,c6,rfl,hj,HOUT⟩:=hrel
      obtain ⟨d0,d1,d2,e0,e1,e2⟩:=row3 HOUT.out.box
      obtain ⟨o,ho⟩:∃ o,o=foldM x (r.take j):=⟨_,rfl⟩
      rw [← ho] at HOUT d0 d1 d2
      have HO:=Ak ho
      clear ho
      by_cases hlt:j<N
      ·obtain rfl:P9=some ⟨gb,off+3,none⟩:=by rw [HP9.out,if_neg (by omega)]
       have hlr:j<r.length:=by rw [← HNR.out];exact hlt
       obtain ⟨q,hq⟩:∃ q,r[j]?=some q:=⟨_,List.getElem?_eq_getElem hlr⟩
       obtain ⟨A7,c7,hcs,hqin⟩:=HLV.out.kid (j+1) q (by simpa [Lv.kids] using hq)
       obtain ⟨g0,g1,g2⟩:=lit_kid (hcs.same (w':=wr) fun k _ hk=>HOUT.out.bel.block k hk)
       rw [show off+(j+1) * 3=off+3+j * 3 by omega] at g0 g1 g2
       have HQ:=Ak hqin
       have HFS:=Ak (show foldM x (r.take (j+1))=.mk 4 0 [o,q] by rw [List.take_add_one,hq];show foldM x (r.take j ++ [q])=_;rw [foldM_snoc,HO.out])
       have hpz:=blk_lt HOUT.out.box
       clear hcs hqin hq
       go_wp2
       exact ⟨⟨j+1,_,_,by go_num,by omega,⟨by rw [HFS.out];exact outb_next HOUT.out hbase HQ.out⟩⟩,by simp [intOf];omega⟩
      ·obtain rfl:j=N:=by omega
       have hlt':decide ((j:Int)<j)=false:=by simp
       have HX2:=Ak (blk_below HST.out.x2 HOUT.out.bel)
       obtain ⟨z0,z1,z2,y0,y1,y2⟩:=row3 HX2.out
       have HF:=Ak (show lvlN (c,ks)=o by rw [HE.out,HO.out,List.take_of_length_le (by rw [← HNR.out];exact Nat.le_refl _)])
       go_wp2
       refine bodyPost_ret (results_c rfl _ _ (w.heap.size+1) 25 #[.int .i64 o.kind,.int .i64 o.num,.slice A6 o.kids.length c6] (0,0) _ rfl (set3 HX2.out) Try.underlying25 rfl (by kernel_rfl)) rfl ?_
       have hch:=chg_set3 wr (w.heap.size+1) (.int .i64 o.kind) (.int .i64 o.num) (.slice A6 o.kids.length c6)
       have hbw:=below_then HST.out.bel HST.out.bel.size HOUT.out.bel
       rw [HF.out]
       exact ⟨A6,c6,rfl,(HOUT.out.lv.same fun b hb hz=>hch.block b hz (by omega)).mono fun b hb _=>.inr (by omega),Chg.trans_below hbw hch (fun _ e=>by omega) hbw.size⟩
end Go.Proofs.Ytdboloabpjmgaaa

namespace Go.Proofs.Ytdboloabpjmgaaa
open Go.RowKit Go.Proofs.YtdboloabpjmgaaaW.PrintWords Go.RegionInvYtdboloabpjmgaaa Go.RegionEYtdboloabpjmgaaa
set_option linter.unusedVariables false

def ri_ops:List Oper:=[
 { dst:=some 43,op:=Go.Op.load 86 (Go.Operand.tmp 6),type:=86,pos:= "ref.go:210",after:=#[],guard:=none },
 { dst:=some 44,op:=Go.Op.load 25 (Go.Operand.tmp 9),type:=25,pos:= "ref.go:210",after:=#[],guard:=none },
 { dst:=some 45,op:=Go.Op.call { callee:=Go.Callee.value (Go.Operand.func 90),args:=#[Go.Operand.tmp 44],argTypes:=#[25] },type:=86,pos:= "ref.go:210",after:=#[{ on:=1,ground:=Go.Ground.data }],guard:=none },
 { dst:=some 46,op:=Go.Op.move (Go.Operand.tmp 8),type:=3,pos:= "ref.go:210",after:=#[],guard:=none },
 { dst:=some 47,op:=Go.Op.call { callee:=Go.Callee.value (Go.Operand.func 92),args:=#[Go.Operand.tmp 45,Go.Operand.tmp 46],argTypes:=#[86,3] },type:=86,pos:= "ref.go:210",after:=#[{ on:=2,ground:=Go.Ground.data },{ on:=3,ground:=Go.Ground.data },{ on:=2,ground:=Go.Ground.chain }],guard:=none },
 { dst:=some 48,op:=Go.Op.call { callee:=Go.Callee.value (Go.Operand.func 91),args:=#[Go.Operand.tmp 43,Go.Operand.tmp 47],argTypes:=#[86,86] },type:=86,pos:= "ref.go:210",after:=#[{ on:=0,ground:=Go.Ground.data },{ on:=4,ground:=Go.Ground.data },{ on:=4,ground:=Go.Ground.chain }],guard:=none },
 { dst:=none,op:=Go.Op.store 86 (Go.Operand.tmp 6) (Go.Operand.tmp 48),type:=0,pos:= "ref.go:210",after:=#[{ on:=5,ground:=Go.Ground.data },{ on:=5,ground:=Go.Ground.chain },{ on:=0,ground:=Go.Ground.phase },{ on:=1,ground:=Go.Ground.phase },{ on:=2,ground:=Go.Ground.phase },{ on:=3,ground:=Go.Ground.phase },{ on:=4,ground:=Go.Ground.phase },{ on:=5,ground:=Go.Ground.phase }],guard:=none }]
def ri_F (w0:World) (g b:Nat) (k:Int) (a_:Nf) (Aa:Option Addr) (na ca:Nat) (Av:Option Addr) (cv:Nat) (lv:Lv):Nat→(Nat→Value)→Value→World→(Nat→Prop)→Prop:=fun rix=>match rix with
 | 0=>fun _ v _ _=>v=.agg #[.int .i64 a_.1,.slice Aa na ca]
 | 1=>fun _ v _ _=>v=lvV Av cv lv
 | 2=>fun τ v w O=>NfV (fun _=>False) (shortN (sumP lv)) v w O
 | 3=>fun _ v _ _=>v=.int .i64 k
 | 4=>fun τ v w O=>NfV (fun _=>False) (shortN (plusR k (shortN (sumP lv)))) v w O
 | 5=>fun τ v w O=>NfV (fun _=>False) (shortN (orN a_ (shortN (plusR k (shortN (sumP lv)))))) v w O
 | 6=>fun τ v w O=>NfBoxF g (shortN (orN a_ (shortN (plusR k (shortN (sumP lv)))))) w O
 | _=>fun _ _ _ _=>True
def ri_C:Nat→List Nat:=fun rix=>match rix with
 | 6=>[5]
 | _=>[]
theorem ri_nw6:nwB ri_ops.toArray 6=true:=by kernel_rfl
theorem ri_nw8:nwB ri_ops.toArray 8=true:=by kernel_rfl
theorem ri_nw9:nwB ri_ops.toArray 9=true:=by kernel_rfl
set_option maxRecDepth 100000 in
set_option maxHeartbeats 8000000 in
theorem ri_obs (w0:World) (g b:Nat) (k:Int) (a_:Nf) (Aa:Option Addr) (na ca:Nat) (Av:Option Addr) (cv:Nat) (lv:Lv) (hx6:w0.heap[g]?=some (.cells #[.int .i64 a_.1,.slice Aa na ca] 86 (0,0))) (hxa:IntsS w0 (fun k=>k<w0.heap.size∧¬ k=g) Aa na a_.2) (hx9:w0.heap[b]?=some (.cells #[.int .i64 lv.kind,.int .i64 lv.num,.slice Av lv.kids.length cv] 25 (0,0))) (hbg:¬ b=g) (hlv:LvS w0 (fun k=>k<w0.heap.size∧¬ k=g) Av cv lv) (hgd:Good lv) (hok0:NfOk (shortN (sumP lv))) (hoka:NfOk a_) (hokp:NfOk (shortN (plusR k (shortN (sumP lv))))) (hk0:0≤k) (hk1:k≤1099511627776) (Q:Exit→Act→World→Prop) (a0:Act) (hi6:a0.tmps.getD 6 undef=.pointer (some ⟨g,0,none⟩)) (hi8:a0.tmps.getD 8 undef=.int .i64 k) (hi9:a0.tmps.getD 9 undef=.pointer (some ⟨b,0,none⟩)) :
  ObsE Try.prog ri_ops.toArray Q (est2 6 0 (fun k=>k=g) (fun _=>False)) ri_C (ri_F w0 g b k a_ Aa na ca Av cv lv) a0 w0 ri_ops.toArray.toList 0:=by
 have nw6:=ri_nw6
 have nw8:=ri_nw8
 have nw9:=ri_nw9
 refine ⟨?_,?_,?_,?_,?_,?_,?_,trivial⟩
 ·refine ⟨⟨fun τ=>stableE_det _,leans_not⟩,?_⟩
  intro a w O hk
  have e6:a.eval (.tmp 6)=.pointer (some ⟨g,0,none⟩):=(hk.init 6 (initialB_of_nw nw6)).trans hi6
  have x6:=(hk.est 6 _ rfl (.inr rfl) g (.inl ⟨rfl,rfl⟩)).trans hx6
  exact obE_loadRow rfl e6 x6 Try.underlying86 rfl (by kernel_rfl) (wanted_none rfl) rfl
 ·refine ⟨⟨fun τ=>stableE_det _,leans_not⟩,?_⟩
  intro a w O hk
  have e9:a.eval (.tmp 9)=.pointer (some ⟨b,0,none⟩):=(hk.init 9 (initialB_of_nw nw9)).trans hi9
  have x9:=hk.world.still hx9 (fun ⟨_,h⟩=>h.elim (fun h=>hbg h.2) And.right)
  exact obE_loadRow rfl e9 x9 Try.underlying25 rfl (by kernel_rfl) (wanted_none rfl) rfl
 ·refine ⟨⟨fun τ=>stableE_nf (fun k hk'=>hk'.elim),leans_not⟩,?_⟩
  intro a w O hk
  have e44:a.eval (.tmp 44)=lvV Av cv lv:=hk.fact 1 _ 44 rfl rfl rfl rfl
  have hlx:=(hlv.same (fun k hk' _=>hk.fix k ((fun k hk'=>est2_fix hk'.1 (fun h=>hk'.2 h) (fun h=>h)) k hk')))
  refine obE_callNew #[lvV Av cv lv] rfl rfl rfl rfl (by simp only [List.map_cons,List.map_nil];rw [e44]) (wanted_none rfl) ((refNorm_calls _ lv (Nat.lt_succ_self _) hgd Av cv w (LvS.all hlx)).mono ?_)
  intro e w' h
  exact NfV.of_got h
 ·refine ⟨⟨fun τ=>stableE_det _,leans_not⟩,?_⟩
  intro a w O hk
  have e8:a.eval (.tmp 8)=.int .i64 k:=(hk.init 8 (initialB_of_nw nw8)).trans hi8
  exact toE (ob_move rfl e8 (wanted_none rfl) rfl)
 ·refine ⟨⟨fun τ=>stableE_nf (fun k hk'=>hk'.elim),leans_not⟩,?_⟩
  intro a w O hk
  have f45:=hk.fact 2 _ 45 rfl rfl rfl rfl
  have g45:=hk.owns 2 rfl rfl
  have e46:a.eval (.tmp 46)=.int .i64 k:=hk.fact 3 _ 46 rfl rfl rfl rfl
  obtain ⟨A,n',cap,e45,h1,h2⟩:=f45
  have hok:=hok0
  have hln:=h2.1.1
  refine obE_callNew #[.agg #[.int .i64 (shortN (sumP lv)).1,.slice A n' cap],.int .i64 k] rfl rfl rfl rfl (by simp only [List.map_cons,List.map_nil];rw [e46,show a.eval (.tmp 45)=_ from e45]) (wanted_none rfl) ((refPlus_calls A n' cap (shortN (sumP lv)).1 k (shortN (sumP lv)).2 w h2.1 hok.1 hok.2.1 hk0 hk1 hok.2.2.1 (by have:=hok.2.2.2;omega)).mono ?_)
  intro e w' h
  exact NfV.of_got h
 ·refine ⟨⟨fun τ=>stableE_nf (fun k hk'=>hk'.elim),leans_not⟩,?_⟩
  intro a w O hk
  have e43:a.eval (.tmp 43)=.agg #[.int .i64 a_.1,.slice Aa na ca]:=hk.fact 0 _ 43 rfl rfl rfl rfl
  have f47:=hk.fact 4 _ 47 rfl rfl rfl rfl
  have g47:=hk.owns 4 rfl rfl
  obtain ⟨A,n',cap,e47,h1,h2⟩:=f47
  have hxa':=(hxa.same (fun k hk' _=>hk.fix k ((fun k hk'=>est2_fix hk'.1 (fun h=>hk'.2 h) (fun h=>h)) k hk')))
  have hln:=h2.1.1
  have hln':=hxa.1.1
  refine obE_callNew #[.agg #[.int .i64 a_.1,.slice Aa na ca],.agg #[.int .i64 (shortN (plusR k (shortN (sumP lv)))).1,.slice A n' cap]] rfl rfl rfl rfl (by simp only [List.map_cons,List.map_nil];rw [e43,show a.eval (.tmp 47)=_ from e47]) (wanted_none rfl) ((refBoth_calls Aa A na ca n' cap a_.1 (shortN (plusR k (shortN (sumP lv)))).1 a_.2 (shortN (plusR k (shortN (sumP lv)))).2 w hxa'.1 h2.1 hoka.1 hoka.2.2.1 hokp.2.2.1 (by have:=hoka.2.2.2;omega) (by have:=hokp.2.2.2;omega)).mono ?_)
  intro e w' h
  exact NfV.of_got h
 ·refine ⟨⟨fun τ=>stableE_nfboxF,leans_not⟩,?_⟩
  intro a w O hk
  have e6:a.eval (.tmp 6)=.pointer (some ⟨g,0,none⟩):=(hk.init 6 (initialB_of_nw nw6)).trans hi6
  have f48:=hk.fact 5 _ 48 rfl rfl rfl rfl
  have g48:=hk.owns 5 rfl rfl
  have x6:=(hk.est 6 _ rfl (.inl rfl) g (.inl ⟨rfl,rfl⟩)).trans hx6
  obtain ⟨z0,z1,y0,y1⟩:=row2 x6
  obtain ⟨A,n',cap,e48,h1,h2⟩:=f48
  refine obE_store (w':=(w.setCell ⟨g,0,none⟩ (.int .i64 (shortN (orN a_ (shortN (plusR k (shortN (sumP lv)))))).1)).setCell ⟨g,1,none⟩ (.slice A n' cap)) (fun k=>k=g∨O 5 k) (wanted_none rfl) (by unfold execOp;simp only [];rw [e6,show a.eval (.tmp 48)=_ from e48];go_simp) ((chg_set2 w g _ _).mono fun k h=>.inr (.inl ⟨rfl,h⟩)) ?_ (fun k h=>.inl ?_)
  ·exact ⟨A,n',cap,set2 x6,.inl rfl,h1,(h2.same fun k hk' hz=>(chg_set2 w g _ _).block k hz (fun h=>hk'.elim id fun h'=>hk.away 6 5 _ rfl (.inl rfl) rfl rfl g (.inl ⟨rfl,rfl⟩) (h ▸ h'))).mono fun k hk' _=>hk'.elim False.elim fun h'=>⟨.inr h',fun h=>hk.away 6 5 _ rfl (.inl rfl) rfl rfl g (.inl ⟨rfl,rfl⟩) (h ▸ h')⟩⟩
  ·exact h.elim (fun h=>.inr (.inl ⟨rfl,h⟩)) fun h=>.inl ⟨5,by simp [ri_C],h⟩
set_option maxRecDepth 100000 in
set_option maxHeartbeats 8000000 in
theorem ri_region {Q:Exit→Act→World→Prop} {id:Nat} (w0:World) (g b:Nat) (k:Int) (a_:Nf) (Aa:Option Addr) (na ca:Nat) (Av:Option Addr) (cv:Nat) (lv:Lv) {s0 s1 s2 s3 s4 s5 s7 s10 s11 s12 s13 s14 s15 s16 s17 s18 s19 s20 s21 s22 s23 s24 s25 s26 s27 s28 s29 s30 s31 s32 s33 s34 s35 s36 s37 s38 s39 s40 s41 s42 s43 s44 s45 s46 s47 s48 s49 s50 s51:Value} (hx6:w0.heap[g]?=some (.cells #[.int .i64 a_.1,.slice Aa na ca] 86 (0,0))) (hxa:IntsS w0 (fun k=>k<w0.heap.size∧¬ k=g) Aa na a_.2) (hx9:w0.heap[b]?=some (.cells #[.int .i64 lv.kind,.int .i64 lv.num,.slice Av lv.kids.length cv] 25 (0,0))) (hbg:¬ b=g) (hlv:LvS w0 (fun k=>k<w0.heap.size∧¬ k=g) Av cv lv) (hgd:Good lv) (hok0:NfOk (shortN (sumP lv))) (hoka:NfOk a_) (hokp:NfOk (shortN (plusR k (shortN (sumP lv))))) (hk0:0≤k) (hk1:k≤1099511627776)
  (hend:∀ (w':World) (u45:Value) (u47:Value) (u48:Value) (O2:Nat→Prop) (O4:Nat→Prop) (v6:Value) (O6:Nat→Prop),Chg (fun k=>(fun k=>k=g) k∨(fun _=>False) k) w0 w'→(NfV (fun _=>False) (shortN (sumP lv)) u45 w' O2)→(∀ k,O2 k→k<w'.heap.size∧¬ Fix w0 (est2 6 0 (fun k=>k=g) (fun _=>False)) k)→(NfV (fun _=>False) (shortN (plusR k (shortN (sumP lv)))) u47 w' O4)→(∀ k,O4 k→k<w'.heap.size∧¬ Fix w0 (est2 6 0 (fun k=>k=g) (fun _=>False)) k)→(NfBoxF g (shortN (orN a_ (shortN (plusR k (shortN (sumP lv)))))) w' O6)→(∀ k,O6 k→k<w'.heap.size∧¬ Fix w0 (est2 6 0 (fun k=>k=g) (fun _=>False)) k)→Q .normal { tmps:=(s0 :: s1 :: s2 :: s3 :: s4 :: s5 :: (.pointer (some ⟨g,0,none⟩)) :: s7 :: (.int .i64 k) :: (.pointer (some ⟨b,0,none⟩)) :: s10 :: s11 :: s12 :: s13 :: s14 :: s15 :: s16 :: s17 :: s18 :: s19 :: s20 :: s21 :: s22 :: s23 :: s24 :: s25 :: s26 :: s27 :: s28 :: s29 :: s30 :: s31 :: s32 :: s33 :: s34 :: s35 :: s36 :: s37 :: s38 :: s39 :: s40 :: s41 :: s42 :: (.agg #[.int .i64 a_.1,.slice Aa na ca]) :: (lvV Av cv lv) :: u45 :: (.int .i64 k) :: u47 :: u48 :: s49 :: s50 :: s51 :: []:List Value).toArray,defers:=[] } w') :
  (Code.region id ri_ops.toArray true).wp Try.prog Q { tmps:=(s0 :: s1 :: s2 :: s3 :: s4 :: s5 :: (.pointer (some ⟨g,0,none⟩)) :: s7 :: (.int .i64 k) :: (.pointer (some ⟨b,0,none⟩)) :: s10 :: s11 :: s12 :: s13 :: s14 :: s15 :: s16 :: s17 :: s18 :: s19 :: s20 :: s21 :: s22 :: s23 :: s24 :: s25 :: s26 :: s27 :: s28 :: s29 :: s30 :: s31 :: s32 :: s33 :: s34 :: s35 :: s36 :: s37 :: s38 :: s39 :: s40 :: s41 :: s42 :: s43 :: s44 :: s45 :: s46 :: s47 :: s48 :: s49 :: s50 :: s51 :: []:List Value).toArray,defers:=[] } w0:=by
 refine wp_region_est (by kernel_rfl) (est2 6 0 (fun k=>k=g) (fun _=>False)) ri_C (ri_F w0 g b k a_ Aa na ca Av cv lv) (est2_dis (fun k h1 h2=>h2)) (est2_range (fun k h=>by have:=blk_lt hx6;omega) (fun k h=>h.elim)) (by rfl) (by kernel_rfl) (ri_obs w0.drew g b k a_ Aa na ca Av cv lv hx6 (hxa.same fun _ _ _=>rfl) hx9 hbg (hlv.same fun _ _ _=>rfl) hgd hok0 hoka hokp hk0 hk1 _ _ rfl rfl rfl) ?_
 intro a w' O hd hs hb hf hf2 ha hsame
 have hl:=slots_eq (ops:=ri_ops.toArray) [(43,.agg #[.int .i64 a_.1,.slice Aa na ca]),(44,lvV Av cv lv),(45,a.tmps.getD 45 undef),(46,.int .i64 k),(47,a.tmps.getD 47 undef),(48,a.tmps.getD 48 undef)] (show a.tmps.size=52 from hs) (fun i h=>hsame i h) ⟨(hf 0 _ 43 rfl rfl (by decide)).1,(hf 1 _ 44 rfl rfl (by decide)).1,rfl,(hf 3 _ 46 rfl rfl (by decide)).1,rfl,rfl,trivial⟩ (by kernel_rfl)
 obtain ⟨tmps,defers⟩:=a
 obtain rfl:defers=[]:=hd
 have hl':tmps=_:=hl
 rw [hl']
 obtain ⟨⟨v6,hv6⟩,ho6⟩:=hf2 6 _ rfl rfl (by decide)
 have hb':=est2_chg hb
 refine Eq.mp ?_ (hend w' (tmps.getD 45 undef) (tmps.getD 47 undef) (tmps.getD 48 undef) (O 2) (O 4) v6 (O 6) ⟨hb'.os,hb'.tape,hb'.output,hb'.size,hb'.block⟩ (hf 2 _ 45 rfl rfl (by decide)).1 (hf 2 _ 45 rfl rfl (by decide)).2 (hf 4 _ 47 rfl rfl (by decide)).1 (hf 4 _ 47 rfl rfl (by decide)).2 hv6 ho6)
 kernel_rfl

end Go.Proofs.Ytdboloabpjmgaaa

namespace Go.Proofs.Ytdboloabpjmgaaa
open Go.RowKit Go.Proofs.YtdboloabpjmgaaaW.PrintWords Go.RegionInvYtdboloabpjmgaaa Go.RegionEYtdboloabpjmgaaa

structure RfSt (wb wr:World) (g:Nat) (f:Nf):Prop where
 box:∃ A n cap,wr.heap[g]?=some (.cells #[.int .i64 f.1,.slice A n cap] 86 (0,0))∧n≤cap∧IntsS wr (fun k=>g<k) A n f.2
 chg:Chg (fun k=>k=g) wb wr
def SndTo (vs:List Lv) (K:List Int) (i:Nat):Prop:=∀ j<i,0≤rd K (j:Nat)→soundB (vlv vs j)=true
theorem sndTo_next {vs:List Lv} {K:List Int} {i:Nat} (h:SndTo vs K i) (hi:0≤rd K (i:Nat)→soundB (vlv vs i)=true):SndTo vs K (i+1):=fun j hj=>by
 rcases Nat.lt_succ_iff_lt_or_eq.1 hj with h' | rfl
 ·exact h j h'
 ·exact hi
theorem snd_nfl {vs:List Lv} {K:List Int} {i:Nat} (h:SndTo vs K i):∀ j<i,0≤rd K (j:Nat)→NfL (sumP (vlv vs j)):=fun j hj h0=>sum_nfl (h j hj h0)
theorem instL_bad {vs:List Lv} {l:Lv} {i:Nat} (hl:soundB l=true) (hi:i<(shortN (sumP l)).2.length) (h0:0≤rd (shortN (sumP l)).2 (i:Nat)) (hs:soundB (vlv vs i)=false):instL vs l=.mk 0 0 []:=by
 have hg:=good_of_sound hl
 have hok:=sumP_ok hl
 have hat:0≤atP (sumP l).2 i:=by rw [← atP_short hok,atP_lt hi];exact h0
 have hiv:i<vs.length:=by
  rcases Nat.lt_or_ge i vs.length with h | h
  ·exact h
  ·unfold vlv at hs
   rw [if_neg (by omega),var_sound (by have:=short_len_le' hl;omega)] at hs
   cases hs
 unfold vlv at hs
 rw [if_pos hiv] at hs
 unfold instL
 rw [if_neg]
 rintro ⟨-,h⟩
 rw [(inst_iff vs hg _).1 h i hiv hat] at hs
 cases hs
theorem instL_good {vs:List Lv} {l:Lv} (hl:soundB l=true) (hs:SndTo vs (shortN (sumP l)).2 (shortN (sumP l)).2.length) :
  instL vs l=lvlN (shortN (accN (shortN (sumP l)).1 (shortN (sumP l)).2 vs (shortN (sumP l)).2.length)):=by
 have hg:=good_of_sound hl
 have hok:=sumP_ok hl
 have hv:∀ i:Nat,0≤atP (sumP l).2 i→i<(shortN (sumP l)).2.length∧0≤rd (shortN (sumP l)).2 (i:Nat):=fun i hi=>by
  rw [← atP_short hok] at hi
  by_cases hlt:i<(shortN (sumP l)).2.length
  ·rw [atP_lt hlt] at hi;exact ⟨hlt,hi⟩
  ·rw [atP_beyond (by omega)] at hi;omega
 rw [acc_eq hg fun i hi=>sum_nfl (hs i (hv i hi).1 (hv i hi).2)]
 unfold instL
 rw [if_pos]
 refine ⟨hl,(inst_iff vs hg _).2 fun i hi h0=>?_⟩
 have:=hs i (hv i h0).1 (hv i h0).2
 unfold vlv at this
 rwa [if_pos hi] at this
set_option maxRecDepth 4000 in
set_option maxHeartbeats 16000000 in
theorem refInst_calls (A:Option Addr) (c:Nat) (l:Lv) (Av:Option Addr) (nv cv:Nat) (vs:List Lv) (w:World) (hin:LvIn w w.heap.size A c l) (hv:LvIn w w.heap.size Av cv (.mk 0 0 vs)) (hn:nv=vs.length) :
  Calls Try.prog 54 #[lvV A c l,.slice Av nv cv] w (LvGot w (fun _=>False) (instL vs l)):=by
 have HIN:=Ak hin
 have HV:=Ak hv
 have HN:=Ak hn
 have hl9:l.kids.length≤9223372036854775807:=by have:=hin.len;omega
 clear hin hv hn
 unfold lvV
 have HB0:=Ak (two_boxes (w:=w) (.cells #[.int .i64 l.kind,.int .i64 l.num,.slice A l.kids.length c] 25 (0,0)) (.cells #[.int .i64 0,.int .i64 0,.slice none 0 0] 25 (0,0)))
 have HX0:=Ak (box0 w (.cells #[.int .i64 l.kind,.int .i64 l.num,.slice A l.kids.length c] 25 (0,0)) (.cells #[.int .i64 0,.int .i64 0,.slice none 0 0] 25 (0,0)))
 have HY0:=Ak (box1 w (.cells #[.int .i64 l.kind,.int .i64 l.num,.slice A l.kids.length c] 25 (0,0)) (.cells #[.int .i64 0,.int .i64 0,.slice none 0 0] 25 (0,0)))
 go_enter Try.func54,Try.ntmps54
 cases hs:soundB l with
 | false =>
  have HS:=Ak hs
  have HE:=Ak (show instL vs l=.mk 0 0 [] by unfold instL;rw [if_neg (by rw [hs];simp)])
  clear hs
  go_upto_region 2 with (first
   | (go_at_call 72;go_must (refine (refSound_calls A c l _ (LvS.all (HIN.out.stay HB0.out))).mono ?_;rintro e w1 ⟨rfl,hb⟩;rw [HS.out];have HB1:=Ak (below_then HB0.out HB0.out.size hb);have HY1:=Ak (blk_below HY0.out hb);obtain ⟨z0,z1,z2,q0,q1,q2⟩:=row3 HY1.out;clear hb)))
  go_wp2
  refine bodyPost_ret (results_c rfl _ _ (w.heap.size+1) 25 #[.int .i64 0,.int .i64 0,.slice none 0 0] (0,0) _ rfl (set3 HY1.out) Try.underlying25 rfl (by kernel_rfl)) rfl ?_
  rw [HE.out]
  exact zero_got _ _ (Chg.trans_below HB1.out (chg_set3 _ _ _ _ _) (fun _ e=>by omega) HB1.out.size)
 | true =>
  have HS:=Ak hs
  obtain ⟨f,hf⟩:∃ f,f=shortN (sumP l):=⟨_,rfl⟩
  have HF:=Ak hf
  have HOK:=Ak (show NfOk f by rw [hf];exact short_ok (sumP_ok hs))
  have HLE:=Ak (show f.2.length≤1001 by rw [hf];exact short_len_le' hs)
  clear hs
  go_upto_region 5 with (first
   | (go_at_call 72;go_must (refine (refSound_calls A c l _ (LvS.all (HIN.out.stay HB0.out))).mono ?_;rintro e w1 ⟨rfl,hb⟩;rw [HS.out];have HB1:=Ak (below_then HB0.out HB0.out.size hb);have HX1:=Ak (blk_below HX0.out hb);have HY1:=Ak (blk_below HY0.out hb);obtain ⟨p0,p1,p2,-,-,-⟩:=row3 HX1.out;clear hb))
   | (go_at_call 90;go_must (refine (refNorm_calls _ l (Nat.lt_succ_self _) (good_of_sound HS.out) A c _ (LvS.all (HIN.out.stay HB1.out))).mono ?_;rw [← hf];rintro e w2 ⟨Af,nf,cf,rfl,hcapf,hif,hb⟩;have HNF:=Ak hif.1.1;have HIF:=Ak hif;have HB2:=Ak (below_then HB1.out HB1.out.size hb);have HY2:=Ak (blk_below HY1.out hb);have HZ1:=Ak HB1.out.size;clear hb hif hcapf)))
  rw [← hf]
  clear hf p0 p1 p2
  obtain ⟨g,hg⟩:∃ g,g=w2.heap.size+1:=⟨_,rfl⟩
  obtain ⟨wb,hwb⟩:∃ wb,wb=(w2.alloc (.cells #[.int .i64 f.1,.slice Af nf cf] 86 (0,0))).alloc (.cells #[.int .i64 f.1,.slice none 0 0] 86 (0,0)):=⟨_,rfl⟩
  have hbb:Below w2.heap.size w2 wb:=by rw [hwb];exact two_boxes _ _
  have hfb:wb.heap[w2.heap.size]?=some (.cells #[.int .i64 f.1,.slice Af nf cf] 86 (0,0)):=by rw [hwb];exact box0 _ _ _
  have hgb:wb.heap[g]?=some (.cells #[.int .i64 f.1,.slice none 0 0] 86 (0,0)):=by rw [hwb,hg];exact box1 _ _ _
  have HBB:=Ak (below_then HB2.out HB2.out.size hbb)
  have HYB:=Ak (blk_below HY2.out hbb)
  have HIB:=Ak ((HIF.out.mono (S':=fun k=>k<g) fun k _ hz=>by omega).later hbb)
  have HST:=Ak (show RfSt wb wb g (shortN (accN f.1 f.2 vs 0)) from ⟨⟨none,0,0,by rw [show accN f.1 f.2 vs 0=(f.1,[]) from rfl,short_num];exact hgb,Nat.le_refl _,by rw [show accN f.1 f.2 vs 0=(f.1,[]) from rfl,short_num];exact IntsS.nil _ _⟩,Chg.of_below (Below.refl _ _)⟩)
  have HGZ:=Ak (show w.heap.size+1<g by have:=blk_lt HY2.out;omega)
  obtain ⟨d0,d1,-,-⟩:=row2 hfb
  rw [← hg,← hwb]
  clear hwb hbb hfb hgb
  have hn9:nf≤1001:=by rw [← HNF.out];exact HLE.out
  clear hg
  go_wp2
  go_loopw [22] (fun i wr=>∃ (j:Nat),i=.int .i64 j∧j≤nf∧Aside0 (SndTo vs f.2 j)∧Aside0 (RfSt wb wr g (shortN (accN f.1 f.2 vs j)))) (fun i _=>nf - (intOf i).toNat)
  case atStart=>exact ⟨0,rfl,Nat.zero_le _,⟨fun j hj=>by omega⟩,HST⟩
  case round =>
   clear HST d0 d1
   obtain ⟨j,rfl,hj,HSN,HST⟩:=hrel
   have hgz:=HGZ.out
   have HBR:=Ak (Chg.trans_below HBB.out HST.out.chg (fun k h=>by have:k=g:=h;omega) HBB.out.size)
   have HYR:=Ak ((HST.out.chg.block _ (blk_lt HYB.out) (by omega)).trans HYB.out)
   have HIR:=Ak (HIB.out.same fun k hk hz=>HST.out.chg.block k hz (by omega))
   have HAC:=Ak (acc_ok (c:=f.1) (K:=f.2) (vs:=vs) ⟨HOK.out.1,HOK.out.2.1⟩ HOK.out.2.2.1 j (by rw [HNF.out];exact hj) (snd_nfl HSN.out))
   by_cases hlt:j<nf
   ·obtain ⟨ad,rfl,hc⟩:=HIR.out.1.at_ j (by omega) (by omega)
    rw [Int.toNat_natCast] at hc
    obtain ⟨y,hy⟩:∃ y,y=rd f.2 j:=⟨_,rfl⟩
    rw [← hy] at hc
    have HY:=Ak hy
    have hyr:-1≤y∧y≤1099511627776:=by
     have:=atP_ok HOK.out.2.2.1 j
     rw [atP_lt (by rw [HNF.out];exact hlt),← hy] at this
     exact this
    clear hy
    by_cases hy0:y<0
    ·have HAN:=Ak (show accN f.1 f.2 vs (j+1)=accN f.1 f.2 vs j by rw [accN,← HY.out,if_pos hy0])
     have HSN':=Ak (sndTo_next HSN.out (fun h=>by rw [← HY.out] at h;omega))
     go_wp2
     go_roundw
     case rel=>exact ⟨j+1,by go_num,by omega,HSN',⟨by rw [HAN.out];exact HST.out⟩⟩
     case measure=>(simp [intOf];try omega)
    ·obtain ⟨x,hx⟩:∃ x,x=vlv vs j:=⟨_,rfl⟩
     have HX:=Ak hx
     clear hx
     obtain ⟨W,hW⟩:∃ W,W=wr.alloc (.cells #[.int .i64 2,.int .i64 j,.slice none 0 0] 25 (0,0)):=⟨_,rfl⟩
     have HBX:=Ak (show W.heap[wr.heap.size]?=some (.cells #[.int .i64 2,.int .i64 j,.slice none 0 0] 25 (0,0)) by rw [hW];exact blk_new _ _)
     have HBW:=Ak (show Below wr.heap.size wr W by rw [hW];exact below_alloc (Below.refl _ _) _)
     go_upto_region 10 with (fail)
     rw [← hW]
     clear hW
     go_upto_if 34 with (fail)
     go_cut [] (fun w5=>∃ Ax cx,Aside0 (w5.heap[wr.heap.size]?=some (.cells #[.int .i64 x.kind,.int .i64 x.num,.slice Ax x.kids.length cx] 25 (0,0)))∧Aside0 (LvS w5 (fun k=>k<w.heap.size) Ax cx x)∧Aside0 (Below wr.heap.size wr w5))
     case first =>
      by_cases hjv:j<nv
      ·obtain ⟨q,hq⟩:∃ q,vs[j]?=some q:=⟨_,List.getElem?_eq_getElem (by rw [← HN.out];exact hjv)⟩
       have HXQ:=Ak (show x=q by rw [HX.out];unfold vlv;rw [if_pos (by rw [← HN.out];exact hjv),lvAt_get hq])
       obtain ⟨Ax,cx,hcs,hlx⟩:=(LvIn.stay HV.out (below_then HBR.out HBR.out.size HBW.out)).kid j q hq
       obtain ⟨ad2,rfl,hc1,hc2,hc3⟩:=hcs.facts
       have HLX:=Ak hlx
       obtain ⟨b0,b1,b2,f0,f1,f2⟩:=row3 HBX.out
       clear hcs hlx hq
       go_wp2
       go_meet
       have hch:=chg_set3 W wr.heap.size (.int .i64 q.kind) (.int .i64 q.num) (.slice Ax q.kids.length cx)
       have hwz:=HBR.out.size
       case rel=>rw [HXQ.out];exact ⟨Ax,cx,⟨set3 HBX.out⟩,⟨HLX.out.same fun k hk hz=>hch.block k hz (by omega)⟩,⟨Chg.trans_below HBW.out hch (fun _ e=>by omega) HBW.out.size⟩⟩
      ·have HXQ:=Ak (show x=.mk 2 j [] by rw [HX.out];unfold vlv;rw [if_neg (by rw [← HN.out];exact hjv)])
       go_wp2
       go_meet
       case rel=>rw [HXQ.out];exact ⟨none,0,⟨HBX.out⟩,⟨LvS.leaf _ _ _ _⟩,⟨HBW.out⟩⟩
     case rest =>
      obtain ⟨Ax,cx,HBX5,HLX5,HB5⟩:=hcut
      clear HBX HBW
      obtain ⟨b0,b1,b2,-,-,-⟩:=row3 HBX5.out
      have hwz:=HBR.out.size
      cases hsx:soundB x with
      | true =>
       have SX:=Ak hsx
       have HSN':=Ak (sndTo_next HSN.out (fun _=>by rw [← HX.out];exact hsx))
       have HNX:=Ak (sum_nfl hsx)
       clear hsx
       go_upto_region 14 with (first
        | (go_at_call 72;go_must (refine (refSound_calls Ax cx x _ (LvIn.mono HLX5.out (Nat.le_trans hwz HB5.out.size))).mono ?_;rintro e w6 ⟨rfl,hb⟩;rw [SX.out];have HB6:=Ak (below_then HB5.out HB5.out.size hb);have HBX6:=Ak (blk_below HBX5.out hb);have HLX6:=Ak (HLX5.out.later hb);clear hb)))
       obtain ⟨Aa,na,ca,hgb,hca,hia⟩:=HST.out.box
       have hgr:=blk_lt hgb
       have hz6:=HB6.out.size
       have HAE:=Ak (show shortN (accN f.1 f.2 vs (j+1))=shortN (orN (shortN (accN f.1 f.2 vs j)) (shortN (plusR y (shortN (sumP x))))) by
        rw [short_plus HNX.out.1 (by omega) hyr.2,short_or HAC.out.1 (plusN_ok HNX.out.1 (by omega) hyr.2),accN,← HY.out,if_neg (by omega),← HX.out])
       refine ri_region w6 g wr.heap.size y (shortN (accN f.1 f.2 vs j)) Aa na ca Ax cx x (blk_below hgb HB6.out) ((hia.later HB6.out).mono fun k hk hz=>⟨hz,by omega⟩) HBX6.out (by omega) (HLX6.out.mono fun k hk hz=>⟨hz,by omega⟩) (good_of_sound SX.out) (short_ok HNX.out.1) (short_ok HAC.out.1) (short_ok (plusR_ok (short_ok HNX.out.1) (by omega) hyr.2)) (by omega) hyr.2 ?_
       intro w' u45 u47 u48 O2 O4 v6 O6 hch _ _ _ _ hbox ho6
       have hst:RfSt wb w' g (shortN (accN f.1 f.2 vs (j+1))):=by
        obtain ⟨A7,n7,c7,h1,-,h2,h3⟩:=hbox
        rw [HAE.out]
        refine ⟨⟨A7,n7,c7,h1,h2,h3.mono fun k hk _=>?_⟩,chg_trans (chg_trans HST.out.chg (Chg.of_below HB6.out)) (hch.mono fun k h=>h.elim id False.elim)⟩
        have:=fix_not (ho6 k hk.1).2 (fun i h=>h.elim And.right fun h=>h.2.elim) (show g≤w6.heap.size by omega)
        have:=hk.2
        show g<k
        omega
       have HST':=Ak hst
       clear hch hbox ho6 hst hgb hca hia
       go_wp2
       go_roundw
       case rel=>exact ⟨j+1,by go_num,by omega,HSN',HST'⟩
       case measure=>(simp [intOf];try omega)
      | false =>
       have SX:=Ak hsx
       have HE:=Ak (show instL vs l=.mk 0 0 [] from instL_bad HS.out (i:=j) (by rw [← HF.out,HNF.out];exact hlt) (by rw [← HF.out,← HY.out];omega) (by rw [← HX.out];exact hsx))
       clear hsx
       go_upto_region 13 with (first
        | (go_at_call 72;go_must (refine (refSound_calls Ax cx x _ (LvIn.mono HLX5.out (Nat.le_trans hwz HB5.out.size))).mono ?_;rintro e w6 ⟨rfl,hb⟩;rw [SX.out];have HB6:=Ak (below_then HBR.out HBR.out.size (below_then HB5.out HB5.out.size hb));have HY6:=Ak (blk_below HYR.out (below_then HB5.out HB5.out.size hb));obtain ⟨z0,z1,z2,q0,q1,q2⟩:=row3 HY6.out;clear hb)))
       go_wp2
       refine bodyPost_ret (results_c rfl _ _ (w.heap.size+1) 25 #[.int .i64 0,.int .i64 0,.slice none 0 0] (0,0) _ rfl (set3 HY6.out) Try.underlying25 rfl (by kernel_rfl)) rfl ?_
       rw [HE.out]
       exact zero_got _ _ (Chg.trans_below HB6.out (chg_set3 _ _ _ _ _) (fun _ e=>by omega) HB6.out.size)
   ·obtain rfl:j=nf:=by omega
    have hlt':decide ((j:Int)<j)=false:=by simp
    obtain ⟨Aa,na,ca,hgb,hca,hia⟩:=HST.out.box
    obtain ⟨h,hh⟩:∃ h,h=shortN (accN f.1 f.2 vs j):=⟨_,rfl⟩
    have HE:=Ak (show instL vs l=lvlN h by rw [hh,instL_good HS.out (by rw [← HF.out,HNF.out];exact HSN.out),← HF.out,HNF.out])
    have HHO:=Ak (show NfOk h by rw [hh];exact short_ok HAC.out.1)
    have HHL:=Ak (show h.2.length≤1001 by rw [hh];exact Nat.le_trans (short_len_le _) HAC.out.2)
    have HHN:=Ak (show partsN h≠[] by rw [hh];exact parts_ne HAC.out.1)
    rw [← hh] at hgb hia
    have HIA:=Ak hia
    obtain ⟨d0,d1,-,-⟩:=row2 hgb
    clear hgb hia hh
    go_wp2_with (first
     | (go_at_call 93;go_must (refine (refLevel_calls Aa na ca h.1 h.2 _ HIA.out.1 HHO.out (by rw [← HIA.out.1.1];exact HHL.out) HHN.out).mono ?_;obtain ⟨x,hx⟩:∃ x,x=lvlN (h.1,h.2):=⟨_,rfl⟩;rw [← hx];have HXE:=Ak (show instL vs l=x by rw [HE.out,hx]);rintro e w6 ⟨A4,c4,rfl,hl4,hb⟩;have HL6:=Ak hl4;have HZ6:=Ak HBR.out.size;have HB6:=Ak (below_then HBR.out HBR.out.size hb);have HY6:=Ak (blk_below HYR.out hb);have HYL:=Ak (blk_lt HYR.out);obtain ⟨z0,z1,z2,q0,q1,q2⟩:=row3 HY6.out;clear hb hl4 hx;simp only [lvV])))
    refine bodyPost_ret (results_c rfl _ _ (w.heap.size+1) 25 #[.int .i64 x.kind,.int .i64 x.num,.slice A4 x.kids.length c4] (0,0) _ rfl (set3 HY6.out) Try.underlying25 rfl (by kernel_rfl)) rfl ?_
    have hch:=chg_set3 w6 (w.heap.size+1) (.int .i64 x.kind) (.int .i64 x.num) (.slice A4 x.kids.length c4)
    have hyl:=HYL.out
    have hz6:=HZ6.out
    rw [HXE.out]
    exact ⟨A4,c4,rfl,(HL6.out.same fun b hb hz=>hch.block b hz (by rcases hb with hb | hb;exact hb.elim;omega)).mono fun b hb _=>hb.elim .inl fun h=>.inr (Nat.le_trans hz6 h),Chg.trans_below HB6.out hch (fun _ e=>by omega) HB6.out.size⟩
end Go.Proofs.Ytdboloabpjmgaaa

namespace Go.Proofs.Ytdboloabpjmgaaa
open Go.RowKit Go.Proofs.YtdboloabpjmgaaaW.PrintWords Go.RegionInvYtdboloabpjmgaaa Go.RegionEYtdboloabpjmgaaa

def LsR (w:World) (rb:Nat) (S:Nat→Prop) (xs:List Lv):Prop:=∃ arr:Array Value,w.heap[rb]?=some (.cells arr 25 (0,0))∧xs.length * 3≤arr.size ∧
 ∀ (i:Nat) (x:Lv),xs[i]?=some x→∃ A c,arr[i * 3]?=some (.int .i64 x.kind)∧arr[i * 3+1]?=some (.int .i64 x.num)∧arr[i * 3+2]?=some (.slice A x.kids.length c)∧LvS w S A c x
theorem LsR.same {w w':World} {rb:Nat} {S:Nat→Prop} {xs:List Lv} (h:LsR w rb S xs) (h1:w'.heap[rb]?=w.heap[rb]?) (h2:∀ k,S k→k<w.heap.size→w'.heap[k]?=w.heap[k]?):LsR w' rb S xs:=by
 obtain ⟨arr,ha,hl,hx⟩:=h
 exact ⟨arr,h1.trans ha,hl,fun i x hi=>by obtain ⟨A,c,p,q,r,hv⟩:=hx i x hi;exact ⟨A,c,p,q,r,hv.same h2⟩⟩
theorem LsR.mono {w:World} {rb:Nat} {S S':Nat→Prop} {xs:List Lv} (h:LsR w rb S xs) (hs:∀ k,S k→k<w.heap.size→S' k):LsR w rb S' xs:=by
 obtain ⟨arr,ha,hl,hx⟩:=h
 exact ⟨arr,ha,hl,fun i x hi=>by obtain ⟨A,c,p,q,r,hv⟩:=hx i x hi;exact ⟨A,c,p,q,r,hv.mono hs⟩⟩
theorem LsR.lvs {w:World} {rb c:Nat} {S S':Nat→Prop} {xs:List Lv} (h:LsR w rb S xs) (hs:∀ k,S k→S' k) (hr:S' rb) (hc:xs.length≤c) (hm:c≤9223372036854775807) (k n:Int):LvS w S' (some ⟨rb,0,none⟩) c (.mk k n xs):=by
 obtain ⟨arr,ha,hl,hx⟩:=h
 have hx':∀ i:Nat,∃ Ac:Option Addr × Nat,∀ x,xs[i]?=some x→arr[i * 3]?=some (.int .i64 x.kind)∧arr[i * 3+1]?=some (.int .i64 x.num)∧arr[i * 3+2]?=some (.slice Ac.1 x.kids.length Ac.2)∧LvS w S Ac.1 Ac.2 x:=by
  intro i
  cases e:xs[i]? with
  | none=>exact ⟨(none,0),fun x h=>by simp at h⟩
  | some x =>
   obtain ⟨A,c,h⟩:=hx i x e
   exact ⟨(A,c),fun y hy=>(show x=y by simpa using hy) ▸ h⟩
 refine .mk (fun i=>(Classical.choose (hx' i)).1) (fun i=>(Classical.choose (hx' i)).2) hc hm (fun i x hi=>?_) (fun i x hi=>((Classical.choose_spec (hx' i)) x hi).2.2.2.mono fun k hk _=>hs k hk)
 obtain ⟨h1,h2,h3,-⟩:=(Classical.choose_spec (hx' i)) x hi
 have hcell:∀ (m:Nat) (v:Value),arr[m]?=some v→w.cell? ((⟨rb,0,none⟩:Addr).add m)=some v:=by
  intro m v hv
  rw [add_plain,cell_of_row _ _ _ _ _ _ ha]
  simpa using hv
 exact ⟨_,rfl,hr,rfl,hcell _ _ h1,hcell _ _ h2,hcell _ _ h3⟩
theorem LsR.at_ {w:World} {rb i:Nat} {S:Nat→Prop} {xs:List Lv} {x:Lv} (h:LsR w rb S xs) (hi:xs[i]?=some x):∃ A c,w.cell? ⟨rb,i * 3,none⟩=some (.int .i64 x.kind)∧w.cell? ⟨rb,i * 3+1,none⟩=some (.int .i64 x.num)∧w.cell? ⟨rb,i * 3+2,none⟩=some (.slice A x.kids.length c)∧LvS w S A c x:=by
 obtain ⟨arr,ha,hl,hx⟩:=h
 obtain ⟨A,c,h1,h2,h3,h4⟩:=hx i x hi
 refine ⟨A,c,?_,?_,?_,h4⟩ <;> (rw [cell_of_row _ _ _ _ _ _ ha];simpa using ‹_›)
theorem LsR.frozen {w:World} {rb:Nat} {S:Nat→Prop} {xs:List Lv} (h:LsR w rb S xs) (i:Nat):w.frozen? ⟨rb,i,none⟩=false:=by
 obtain ⟨arr,ha,-⟩:=h
 exact blk_frozen ha i
theorem LsR.set {w:World} {rb j:Nat} {S:Nat→Prop} {xs:List Lv} (h:LsR w rb S xs) (hj:j<xs.length) (hS:¬ S rb) (y:Lv) (A:Option Addr) (c:Nat) (hy:LvS w S A c y) :
  LsR (((w.setCell ⟨rb,j * 3,none⟩ (.int .i64 y.kind)).setCell ⟨rb,j * 3+1,none⟩ (.int .i64 y.num)).setCell ⟨rb,j * 3+2,none⟩ (.slice A y.kids.length c)) rb S (xs.set j y):=by
 obtain ⟨arr,ha,hl,hx⟩:=h
 have hch:=chg_set3' w rb (j * 3) (j * 3+1) (j * 3+2) (.int .i64 y.kind) (.int .i64 y.num) (.slice A y.kids.length c)
 have ho:∀ k,S k→k<w.heap.size→(((w.setCell ⟨rb,j * 3,none⟩ (.int .i64 y.kind)).setCell ⟨rb,j * 3+1,none⟩ (.int .i64 y.num)).setCell ⟨rb,j * 3+2,none⟩ (.slice A y.kids.length c)).heap[k]?=w.heap[k]?:=fun k hk hz=>hch.block k hz (fun e=>hS (e ▸ hk))
 refine ⟨_,blk_put (blk_put (blk_put ha (j * 3) _ rfl) (j * 3+1) _ rfl) (j * 3+2) _ rfl,by simpa using hl,fun i x hi=>?_⟩
 rw [List.getElem?_set] at hi
 by_cases hij:j=i
 ·subst hij
  rw [if_pos rfl,if_pos hj] at hi
  obtain rfl:y=x:=by simpa using hi
  refine ⟨A,c,?_,?_,?_,hy.same ho⟩
  ·simp only [Array.getElem?_setIfInBounds]
   rw [if_neg (by omega),if_neg (by omega),if_pos trivial,if_pos (by first | omega | (simp;omega))]
  ·simp only [Array.getElem?_setIfInBounds]
   rw [if_neg (by omega),if_pos trivial,if_pos (by first | omega | (simp;omega))]
  ·simp only [Array.getElem?_setIfInBounds]
   rw [if_pos trivial,if_pos (by first | omega | (simp;omega))]
 ·rw [if_neg hij] at hi
  obtain ⟨A',c',h1,h2,h3,h4⟩:=hx i x hi
  refine ⟨A',c',?_,?_,?_,h4.same ho⟩
  ·simp only [Array.getElem?_setIfInBounds]
   rw [if_neg (by omega),if_neg (by omega),if_neg (by omega)];exact h1
  ·simp only [Array.getElem?_setIfInBounds]
   rw [if_neg (by omega),if_neg (by omega),if_neg (by omega)];exact h2
  ·simp only [Array.getElem?_setIfInBounds]
   rw [if_neg (by omega),if_neg (by omega),if_neg (by omega)];exact h3
def LsF (w:World) (T O:Nat→Prop) (A:Option Addr) (ls:List Lv):Prop:=ls=[]∨∃ rb,A=some ⟨rb,0,none⟩∧O rb∧¬ T rb∧LsR w rb T ls
theorem LsF.same {w w':World} {T O O':Nat→Prop} {A:Option Addr} {ls:List Lv} (h:LsF w T O A ls) (hO:∀ k,O k→k<w.heap.size→O' k∧w'.heap[k]?=w.heap[k]?) (hT:∀ k,T k→k<w.heap.size→w'.heap[k]?=w.heap[k]?):LsF w' T O' A ls:=by
 rcases h with h | ⟨rb,e,ho,ht,hr⟩
 ·exact .inl h
 ·have hz:rb<w.heap.size:=by obtain ⟨arr,ha,-⟩:=hr;exact blk_lt ha
  exact .inr ⟨rb,e,(hO rb ho hz).1,ht,hr.same (hO rb ho hz).2 hT⟩
def LsOR (T:Nat→Prop) (ls:List Lv) (v:Value) (w:World) (O:Nat→Prop):Prop:=∃ A c,v=.slice A ls.length c∧LvS w (fun k=>T k∨O k) A c (.mk 0 0 ls)∧LsF w T O A ls
theorem stableE_lsr {w0:World} {E:Nat→Nat→Prop} {T:Nat→Prop} {ls:List Lv} (hT:∀ k,T k→Fix w0 E k):StableE w0 E (fun v w O=>LsOR T ls v w O):=by
 rintro v w w' O ⟨A,c,e,h,h2⟩ hz hk
 exact ⟨A,c,e,h.same fun k hs hk'=>hk k hk' (hs.imp (hT k) id),h2.same (fun k ho hk'=>⟨ho,hk k hk' (.inr ho)⟩) fun k ht hk'=>hk k hk' (.inl (hT k ht))⟩
def TmOR (T:Nat→Prop) (t:Tm) (v:Value) (w:World) (O:Nat→Prop):Prop:=∃ q,v=tmV q t∧TmS w (fun k=>T k∨O k) q t∧LsF w T O q.B t.ls
theorem stableE_tmr {w0:World} {E:Nat→Nat→Prop} {T:Nat→Prop} {t:Tm} (hT:∀ k,T k→Fix w0 E k):StableE w0 E (TmOR T t):=by
 rintro v w w' O ⟨q,e,h,h2⟩ hz hk
 exact ⟨q,e,h.same fun k hk' hz'=>hk k hz' (hk'.imp (hT k) id),h2.same (fun k ho hk'=>⟨ho,hk k hk' (.inr ho)⟩) fun k ht hk'=>hk k hk' (.inl (hT k ht))⟩
def TmBoxR (p:Nat) (T:Nat→Prop) (t:Tm) (w:World) (O:Nat→Prop):Prop:=∃ q,w.heap[p]?=some (tmO q t)∧O p∧TmS w (fun k=>T k∨(O k∧k≠p)) q t∧LsF w T (fun k=>O k∧k≠p) q.B t.ls
theorem stableE_tmboxr {w0:World} {E:Nat→Nat→Prop} {T:Nat→Prop} {t:Tm} {p:Nat} (hT:∀ k,T k→Fix w0 E k):StableE w0 E (fun _ w O=>TmBoxR p T t w O):=by
 rintro v w w' O ⟨q,hb,hO,h,h2⟩ hz hk
 exact ⟨q,(hk p (blk_lt hb) (.inr hO)).trans hb,hO,h.same fun k hk' hz'=>hk k hz' (hk'.imp (hT k) And.left),h2.same (fun k ho hk'=>⟨ho,hk k hk' (.inr ho.1)⟩) fun k ht hk'=>hk k hk' (.inl (hT k ht))⟩
def TmGotR (w:World) (S:Nat→Prop) (t:Tm) (e:Ending) (w':World):Prop:=∃ q,e=.returned (tmV q t)∧TmS w' (fun k=>S k∨w.heap.size≤k) q t∧LsF w' S (fun k=>w.heap.size≤k) q.B t.ls∧Below w.heap.size w w'
section
variable {ops:Array Oper} {Q:Exit→Act→World→Prop} {R:Nat→Prop} {a:Act} {w:World} {o:Oper} {T:Nat→Prop}
theorem obE_tmPutR {V7:Value} {t t0:Tm} {q0:Pl} {O2:Nat→Prop} {x y:Operand} {g:Nat} (ho:o.op=.store 28 x y) (hw:Region.wanted o (yielded ops a.tmps)=true) (hx:a.eval x=.pointer (some ⟨g,0,none⟩))
  (hg:w.heap[g]?=some (tmO q0 t0)) (h2:TmOR T t (a.eval y) w O2) (hRg:R g) (hR2:∀ k,O2 k→R k) (hTg:¬ T g) (hOg:¬ O2 g) (hV:V7=.pointer (some ⟨g,0,none⟩)) :
  OwesE Try.prog ops Q R (fun _ w O=>∃ p,V7=.pointer (some ⟨p,0,none⟩)∧TmBoxR p T t w O) o a w:=by
 obtain ⟨q,hy,ht,hf⟩:=h2
 have hs:=run_storeVar_row (P:=Try.prog) w g 28 28 _ #[.int .i64 t.kind,.int .i64 t.num,.string t.name,.int .i64 t.lv.kind,.int .i64 t.lv.num,.slice q.A t.lv.kids.length q.c,.slice q.B t.ls.length q.d,.slice q.K t.kids.length q.e] hg (by kernel_rfl) rfl (tm_one q t)
 have hother:∀ k,k≠g→(w.setRow g #[.int .i64 t.kind,.int .i64 t.num,.string t.name,.int .i64 t.lv.kind,.int .i64 t.lv.num,.slice q.A t.lv.kids.length q.c,.slice q.B t.ls.length q.d,.slice q.K t.kids.length q.e]).heap[k]?=w.heap[k]?:=fun k hk=>setRow_other w g k _ hk
 refine obE_store (w':=w.setRow g _) (fun k=>k=g∨O2 k) hw ?_ ⟨rfl,rfl,rfl,Nat.le_of_eq (size_setRow _ _ _).symm,fun k _ hn=>hother k (fun e=>hn (e ▸ hRg))⟩ ⟨g,hV,q,setRow_heap w g _ _ _ _ hg,.inl rfl,?_,?_⟩ (fun k h=>.inl (h.elim (fun h=>h ▸ hRg) (hR2 k)))
 ·unfold execOp
  simp only [ho,hx,hy,tmV,Instr.storeAt,Instr.sureAddr,Sem.run_bind,Sem.run_pure,Result.andThen_ok,hs]
 ·refine (ht.mono (S':=fun k=>(T k∨(k=g∨O2 k))∧k≠g) fun k h _=>⟨h.imp id .inr,fun e=>h.elim (fun h=>hTg (e ▸ h)) (fun h=>hOg (e ▸ h))⟩).same (fun k h _=>hother k h.2) |>.mono fun k h _=>h.1.imp id fun h'=>⟨h',h.2⟩
 ·exact hf.same (fun k h _=>⟨⟨.inr h,fun e=>hOg (e ▸ h)⟩,hother k (fun e=>hOg (e ▸ h))⟩) fun k h _=>hother k (fun e=>hTg (e ▸ h))
end
end Go.Proofs.Ytdboloabpjmgaaa

namespace Go.Proofs.Ytdboloabpjmgaaa
open Go.RowKit Go.Proofs.YtdboloabpjmgaaaW.PrintWords Go.RegionInvYtdboloabpjmgaaa Go.RegionEYtdboloabpjmgaaa
set_option linter.unusedVariables false

section
variable {ops:Array Oper} {Q:Exit→Act→World→Prop} {R:Nat→Prop} {a:Act} {w:World} {o:Oper}
set_option maxHeartbeats 1000000 in
theorem obE_lvCopyR {x:Operand} {A:Option Addr} {c:Nat} {ls:List Lv} {T:Nat→Prop} (ho:o.op=.call { callee:=.builtin .append,args:=#[.const (.slice none 0 0),x],argTypes:=#[23,23] })
  (hw:Region.wanted o (yielded ops a.tmps)=true) (hx:a.eval x=.slice A ls.length c) (hT:∀ k,T k→k<w.heap.size) (hin:LvS w T A c (.mk 0 0 ls)) (h40:ls.length * 40≤140737488355328):OwesE Try.prog ops Q R (LsOR T ls) o a w:=by
 obtain ⟨i0,hi,hzz⟩:=Option.map_eq_some_iff.1 infoLv
 simp only [Prod.mk.injEq] at hzz
 obtain ⟨hz0,hz1,hz2⟩:=hzz
 have hcon:a.eval (.const (.slice none 0 0))=.slice none 0 0:=rfl
 cases hin with
 | mk fA fc hc hm hcell hk =>
 cases ls with
 | nil =>
  refine obE_run (v:=.slice none 0 0) hw ?_ ⟨none,0,rfl,.mk (fun _=>none) (fun _=>0) (by simp) (by omega) (fun i x h=>by simp at h) (fun i x h=>by simp at h),.inl rfl⟩
  unfold execOp
  rw [ho]
  simp only [resolve,invoke,builtin,Sem.run_bind,Sem.run_pure,Result.andThen_ok,List.map_toArray,List.map_cons,List.map_nil,hx,hcon]
  cases A with
  | none=>simp [Builtin.append_,run_underlying Try.underlying23,sizeOf,typeInfo,hi,Builtin.lenOf,Builtin.firstCells,loadCells,loadCellsFrom]
  | some ad=>simp [Builtin.append_,run_underlying Try.underlying23,sizeOf,typeInfo,hi,Builtin.lenOf,Builtin.firstCells,loadCells,loadCellsFrom]
 | cons y r =>
  obtain ⟨ls,hls⟩:∃ ls,ls=y :: r:=⟨_,rfl⟩
  have hpos:0<ls.length:=by rw [hls];simp
  have h0:ls[0]?=some y:=by rw [hls];rfl
  rw [← hls] at hx h40 hc hcell hk ⊢
  clear hls
  obtain ⟨ad,rfl,-,hsp,-,-,-⟩:=hcell 0 y h0
  obtain ⟨b,off,sp⟩:=ad
  obtain rfl:sp=none:=hsp
  have hnews:∀ j u,(lvRow fA fc ls 0)[j]?=some u→w.cell? ((⟨b,off,none⟩:Addr).add j)=some u:=by
   intro j u hu
   have hj:j<ls.length * 3:=by have:=(List.getElem?_eq_some_iff.1 hu).1;rwa [lvRow_len] at this
   obtain ⟨i,m,rfl,hm3,hi3⟩:=mod3 hj
   obtain ⟨z,hz⟩:∃ z,ls[i]?=some z:=⟨_,List.getElem?_eq_getElem hi3⟩
   obtain ⟨g1,g2,g3⟩:=lvRow_get fA fc ls 0 i z hz
   rw [Nat.zero_add] at g3
   obtain ⟨ad',e,-,-,c0,c1,c2⟩:=hcell i z hz
   obtain rfl:(⟨b,off,none⟩:Addr)=ad':=Option.some.inj e
   match m,hm3 with
   | 0,_=>rw [Nat.add_zero] at hu ⊢;rw [c0,← g1,hu]
   | 1,_=>rw [c1,← g2,hu]
   | 2,_=>rw [c2,← g3,hu]
  obtain ⟨g,cap,w',hr,ho1,hg,hat,hlt⟩:=run_append_lies (P:=Try.prog) w 23 o.type w.heap.size 25 i0 _ 3 40 Try.underlying23 hi hz0 hz1 hz2 rfl (by decide) (.slice none 0 0) 0 [] (own_nil _ _ _ _) ⟨b,off,none⟩ ls.length c (lvRow fA fc ls 0) (lvRow_len _ _ _ _) hnews (lvRow_one _ _ _ _) hpos (by simp only [maxLen];omega) (by omega) (Nat.le_refl _) w.heap.size rfl
  rw [Nat.zero_add,List.nil_append] at ho1
  rw [Nat.zero_add] at hr
  have hgw:g=w.heap.size:=by rcases hat with h | h;simp [Value.ownBlock] at h;exact h
  have hch:Chg (fun _=>False) w w':=⟨hg.os,hg.tape,hg.output,hg.size,fun k hk _=>hg.block k hk (by simp [Value.ownBlock])⟩
  have hKL:KidsL w' T w.heap.size (.slice (some ⟨g,0,none⟩) ls.length cap) ls:=⟨lvRow fA fc ls 0,fA,fc,ho1,fun i z hz=>by
   obtain ⟨g1,g2,g3⟩:=lvRow_get fA fc ls 0 i z hz
   rw [Nat.zero_add] at g3
   exact ⟨g1,g2,g3,((hk i z hz).same fun k hk' hz'=>hch.block k hz' id).mono fun k hk' _=>.inl hk'⟩⟩
  have hLR:LsR w' w.heap.size T ls:=by
   obtain ⟨hlen,h1 | ⟨g',cap',cur,e1,hbg,hcur,hn,hm',hsz,htk⟩⟩:=ho1
   ·exact absurd h1.1 (by simp)
   ·obtain rfl:g=g':=by simp only [Value.slice.injEq,Option.some.injEq,Addr.mk.injEq] at e1;exact e1.1.1
    rw [hgw] at hcur
    have hget:∀ (m:Nat) (u:Value),(lvRow fA fc ls 0)[m]?=some u→cur[m]?=some u:=by
     intro m u hu
     rw [← htk,List.getElem?_take] at hu
     split at hu
     ·rw [← Array.getElem?_toList];exact hu
     ·simp at hu
    refine ⟨cur,hcur,by rw [hsz];exact Nat.mul_le_mul_right 3 hn,fun i z hz=>?_⟩
    obtain ⟨g1,g2,g3⟩:=lvRow_get fA fc ls 0 i z hz
    rw [Nat.zero_add] at g3
    exact ⟨_,_,hget _ _ g1,hget _ _ g2,hget _ _ g3,(hk i z hz).same fun k hk' hz'=>hch.block k hz' id⟩
  obtain ⟨A1,c1,hv,hlv⟩:=hKL.level
  have hA1:A1=some ⟨w.heap.size,0,none⟩:=by rw [hgw] at hv;simp only [Value.slice.injEq] at hv;exact hv.1.symm
  refine obE_res (v:=.slice A1 ls.length c1) (w':=w') (fun k=>w.heap.size≤k∧k<w'.heap.size) hw ?_ (hch.mono fun k h=>h.elim) ⟨A1,c1,rfl,hlv.mono fun k h hz=>h.imp id fun h=>⟨h,hz⟩,.inr ⟨w.heap.size,hA1,⟨Nat.le_refl _,hgw ▸ hlt⟩,fun h=>Nat.lt_irrefl _ (hT _ h),hLR⟩⟩ (fun k h=>.inr h)
  rw [← hv]
  unfold execOp
  rw [ho]
  simp only [resolve,invoke,builtin,Sem.run_bind,Sem.run_pure,Result.andThen_ok,List.map_toArray,List.map_cons,List.map_nil,hx,hcon,hr]
end

def bar9_ops:List Oper:=[
 { dst:=some 26,op:=Go.Op.fieldAddr 28 (Go.Operand.tmp 1) 0,type:=0,pos:= "ref.go:149",after:=#[],guard:=none },
 { dst:=some 27,op:=Go.Op.load 3 (Go.Operand.tmp 26),type:=3,pos:= "ref.go:149",after:=#[{ on:=0,ground:=Go.Ground.data }],guard:=none },
 { dst:=some 28,op:=Go.Op.fieldAddr 28 (Go.Operand.tmp 1) 2,type:=0,pos:= "ref.go:149",after:=#[],guard:=none },
 { dst:=some 29,op:=Go.Op.load 9 (Go.Operand.tmp 28),type:=9,pos:= "ref.go:149",after:=#[{ on:=2,ground:=Go.Ground.data }],guard:=none },
 { dst:=some 30,op:=Go.Op.fieldAddr 28 (Go.Operand.tmp 1) 4,type:=0,pos:= "ref.go:149",after:=#[],guard:=none },
 { dst:=some 31,op:=Go.Op.load 23 (Go.Operand.tmp 30),type:=23,pos:= "ref.go:149",after:=#[{ on:=4,ground:=Go.Ground.data }],guard:=none },
 { dst:=some 32,op:=Go.Op.call { callee:=Go.Callee.builtin Go.Builtin.append,args:=#[Go.Operand.const (Go.Value.slice none 0 0),Go.Operand.tmp 31],argTypes:=#[23,23] },type:=23,pos:= "ref.go:149",after:=#[{ on:=5,ground:=Go.Ground.data }],guard:=none },
 { dst:=some 33,op:=Go.Op.build 28 #[(0,Go.Operand.tmp 27),(2,Go.Operand.tmp 29),(4,Go.Operand.tmp 32)],type:=28,pos:= "ref.go:149",after:=#[{ on:=1,ground:=Go.Ground.data },{ on:=3,ground:=Go.Ground.data },{ on:=6,ground:=Go.Ground.data }],guard:=none },
 { dst:=none,op:=Go.Op.store 28 (Go.Operand.tmp 2) (Go.Operand.tmp 33),type:=0,pos:= "ref.go:149",after:=#[{ on:=7,ground:=Go.Ground.data },{ on:=6,ground:=Go.Ground.chain },{ on:=0,ground:=Go.Ground.phase },{ on:=1,ground:=Go.Ground.phase },{ on:=2,ground:=Go.Ground.phase },{ on:=3,ground:=Go.Ground.phase },{ on:=4,ground:=Go.Ground.phase },{ on:=5,ground:=Go.Ground.phase },{ on:=6,ground:=Go.Ground.phase },{ on:=7,ground:=Go.Ground.phase }],guard:=none }]
def bar9_F (w0:World) (Tb Rb:Nat) (S:Nat→Prop) (p:Pl) (t:Tm):Nat→(Nat→Value)→Value→World→(Nat→Prop)→Prop:=fun rix=>match rix with
 | 0=>fun _ v _ _=>v=.pointer (some ⟨Tb,0,none⟩)
 | 1=>fun _ v _ _=>v=.int .i64 7
 | 2=>fun _ v _ _=>v=.pointer (some ⟨Tb,2,none⟩)
 | 3=>fun _ v _ _=>v=.string t.name
 | 4=>fun _ v _ _=>v=.pointer (some ⟨Tb,6,none⟩)
 | 5=>fun _ v _ _=>v=.slice p.B t.ls.length p.d
 | 6=>fun τ v w O=>LsOR S t.ls v w O
 | 7=>fun τ v w O=>TmOR S (.mk 7 0 t.name lv0 t.ls []) v w O
 | 8=>fun τ v w O=>∃ p,(.pointer (some ⟨Rb,0,none⟩):Value)=.pointer (some ⟨p,0,none⟩)∧TmBoxR p S (.mk 7 0 t.name lv0 t.ls []) w O
 | _=>fun _ _ _ _=>True
def bar9_C:Nat→List Nat:=fun rix=>match rix with
 | 7=>[6]
 | 8=>[7]
 | _=>[]
theorem bar9_nw1:nwB bar9_ops.toArray 1=true:=by kernel_rfl
theorem bar9_nw2:nwB bar9_ops.toArray 2=true:=by kernel_rfl
set_option maxRecDepth 100000 in
set_option maxHeartbeats 8000000 in
theorem bar9_obs (w0:World) (Tb Rb:Nat) (S:Nat→Prop) (p:Pl) (t:Tm) (hT:w0.heap[Tb]?=some (tmO p t)) (hR:w0.heap[Rb]?=some (outK 0 (.slice none 0 0))) (hTR:Tb≠Rb) (hS:∀ k,S k→k<w0.heap.size∧k≠Rb) (hin:TmS w0 S p t) (hk7:t.kind=7) (Q:Exit→Act→World→Prop) (a0:Act) (hi1:a0.tmps.getD 1 undef=.pointer (some ⟨Tb,0,none⟩)) (hi2:a0.tmps.getD 2 undef=.pointer (some ⟨Rb,0,none⟩)) :
  ObsE Try.prog bar9_ops.toArray Q (est2 8 0 (fun k=>k=Rb) (fun _=>False)) bar9_C (bar9_F w0 Tb Rb S p t) a0 w0 bar9_ops.toArray.toList 0:=by
 have nw1:=bar9_nw1
 have nw2:=bar9_nw2
 refine ⟨?_,?_,?_,?_,?_,?_,?_,?_,?_,trivial⟩
 ·refine ⟨⟨fun τ=>stableE_det _,leans_not⟩,?_⟩
  intro a w O hk
  have e1:a.eval (.tmp 1)=.pointer (some ⟨Tb,0,none⟩):=(hk.init 1 (initialB_of_nw nw1)).trans hi1
  exact obE_run (wanted_none rfl) (by unfold execOp;simp only [];rw [e1];go_simp) rfl
 ·refine ⟨⟨fun τ=>stableE_det _,leans_not⟩,?_⟩
  intro a w O hk
  have e26:a.eval (.tmp 26)=.pointer (some ⟨Tb,0,none⟩):=hk.fact 0 _ 26 rfl rfl rfl rfl
  have xT:=(hk.fix Tb (est2_fix (blk_lt hT) (fun e=>hTR e) (fun e=>e.elim))).trans hT
  obtain ⟨p0,p1,p2,p3,p4,p5,p6,p7⟩:=row8 xT
  rw [hk7] at p0
  exact obE_run (wanted_none rfl) (by unfold execOp;simp only [];rw [e26];go_simp) rfl
 ·refine ⟨⟨fun τ=>stableE_det _,leans_not⟩,?_⟩
  intro a w O hk
  have e1:a.eval (.tmp 1)=.pointer (some ⟨Tb,0,none⟩):=(hk.init 1 (initialB_of_nw nw1)).trans hi1
  exact obE_run (wanted_none rfl) (by unfold execOp;simp only [];rw [e1];go_simp) rfl
 ·refine ⟨⟨fun τ=>stableE_det _,leans_not⟩,?_⟩
  intro a w O hk
  have e28:a.eval (.tmp 28)=.pointer (some ⟨Tb,2,none⟩):=hk.fact 2 _ 28 rfl rfl rfl rfl
  have xT:=(hk.fix Tb (est2_fix (blk_lt hT) (fun e=>hTR e) (fun e=>e.elim))).trans hT
  obtain ⟨p0,p1,p2,p3,p4,p5,p6,p7⟩:=row8 xT
  exact obE_run (wanted_none rfl) (by unfold execOp;simp only [];rw [e28];go_simp) rfl
 ·refine ⟨⟨fun τ=>stableE_det _,leans_not⟩,?_⟩
  intro a w O hk
  have e1:a.eval (.tmp 1)=.pointer (some ⟨Tb,0,none⟩):=(hk.init 1 (initialB_of_nw nw1)).trans hi1
  exact obE_run (wanted_none rfl) (by unfold execOp;simp only [];rw [e1];go_simp) rfl
 ·refine ⟨⟨fun τ=>stableE_det _,leans_not⟩,?_⟩
  intro a w O hk
  have e30:a.eval (.tmp 30)=.pointer (some ⟨Tb,6,none⟩):=hk.fact 4 _ 30 rfl rfl rfl rfl
  have xT:=(hk.fix Tb (est2_fix (blk_lt hT) (fun e=>hTR e) (fun e=>e.elim))).trans hT
  obtain ⟨p0,p1,p2,p3,p4,p5,p6,p7⟩:=row8 xT
  exact obE_run (wanted_none rfl) (by unfold execOp;simp only [];rw [e30];go_simp) rfl
 ·refine ⟨⟨fun τ=>stableE_lsr (fun k hk'=>est2_fix (hS k hk').1 (fun e=>(hS k hk').2 e) (fun e=>e.elim)),leans_not⟩,?_⟩
  intro a w O hk
  have e31:a.eval (.tmp 31)=.slice p.B t.ls.length p.d:=hk.fact 5 _ 31 rfl rfl rfl rfl
  have hls:=hin.ls.same (w':=w) (fun k hk' _=>hk.fix k ((fun k hk'=>est2_fix (hS k hk').1 (fun e=>(hS k hk').2 e) (fun e=>e.elim)) k hk'))
  exact obE_lvCopyR rfl (wanted_none rfl) e31 (fun k h=>Nat.lt_of_lt_of_le (hS k h).1 hk.world.size) hls hin.fit.2.2
 ·refine ⟨⟨fun τ=>stableE_tmr (fun k hk'=>est2_fix (hS k hk').1 (fun e=>(hS k hk').2 e) (fun e=>e.elim)),leans_not⟩,?_⟩
  intro a w O hk
  have e27:a.eval (.tmp 27)=.int .i64 7:=hk.fact 1 _ 27 rfl rfl rfl rfl
  have e29:a.eval (.tmp 29)=.string t.name:=hk.fact 3 _ 29 rfl rfl rfl rfl
  have f32:=hk.fact 6 _ 32 rfl rfl rfl rfl
  have g32:=hk.owns 6 rfl rfl
  obtain ⟨A9,c9,z32,h32,l32⟩:=f32
  replace z32:a.eval (.tmp 32)=_:=z32
  exact obE_take (v:=tmV ⟨none,0,A9,c9,none,0⟩ (.mk 7 0 t.name lv0 t.ls [])) (fun k=>O 6 k) (wanted_none rfl) (by unfold execOp;simp only [List.map_toArray,List.map_cons,List.map_nil,e27,e29,z32];go_simp;rfl) ⟨_,rfl,TmS.flat (LvS.leaf _ _ _ _) h32 _ _ _ ⟨by decide,hin.fit.2.1,hin.fit.2.2⟩,l32⟩ (fun k h=>.inl ⟨6,by simp [bar9_C],h⟩)
 ·refine ⟨⟨fun τ=>stableE_ex fun p v w w' O h hz hk=>⟨h.1,stableE_tmboxr (fun k hk'=>est2_fix (hS k hk').1 (fun e=>(hS k hk').2 e) (fun e=>e.elim)) v w w' O h.2 hz hk⟩,leans_not⟩,?_⟩
  intro a w O hk
  have e2:a.eval (.tmp 2)=.pointer (some ⟨Rb,0,none⟩):=(hk.init 2 (initialB_of_nw nw2)).trans hi2
  have f33:=hk.fact 7 _ 33 rfl rfl rfl rfl
  have g33:=hk.owns 7 rfl rfl
  have x2:w.heap[Rb]?=some (tmO plz zeroT):=(hk.est 8 _ rfl (.inl rfl) Rb (.inl ⟨rfl,rfl⟩)).trans hR
  exact obE_tmPutR (T:=S) rfl (wanted_none rfl) e2 x2 f33 (.inr (.inl ⟨rfl,rfl⟩)) (fun k h=>.inl ⟨7,by simp [bar9_C],h⟩) (fun h=>(hS Rb h).2 rfl) (hk.away 8 7 _ rfl (.inl rfl) rfl rfl Rb (.inl ⟨rfl,rfl⟩)) rfl
set_option maxRecDepth 100000 in
set_option maxHeartbeats 8000000 in
theorem bar9_region {Q:Exit→Act→World→Prop} {id:Nat} (w0:World) (Tb Rb:Nat) (S:Nat→Prop) (p:Pl) (t:Tm) {s0 s3 s4 s5 s6 s7 s8 s9 s10 s11 s12 s13 s14 s15 s16 s17 s18 s19 s20 s21 s22 s23 s24 s25 s26 s27 s28 s29 s30 s31 s32 s33 s34 s35 s36:Value} (hT:w0.heap[Tb]?=some (tmO p t)) (hR:w0.heap[Rb]?=some (outK 0 (.slice none 0 0))) (hTR:Tb≠Rb) (hS:∀ k,S k→k<w0.heap.size∧k≠Rb) (hin:TmS w0 S p t) (hk7:t.kind=7)
  (hend:∀ (w':World) (u32:Value) (u33:Value) (v8:Value) (O8:Nat→Prop),Chg (fun k=>(fun k=>k=Rb) k∨(fun _=>False) k) w0 w'→(∃ p,(.pointer (some ⟨Rb,0,none⟩):Value)=.pointer (some ⟨p,0,none⟩)∧TmBoxR p S (.mk 7 0 t.name lv0 t.ls []) w' O8)→(∀ k,O8 k→k<w'.heap.size∧¬ Fix w0 (est2 8 0 (fun k=>k=Rb) (fun _=>False)) k)→Q .normal { tmps:=(s0 :: (.pointer (some ⟨Tb,0,none⟩)) :: (.pointer (some ⟨Rb,0,none⟩)) :: s3 :: s4 :: s5 :: s6 :: s7 :: s8 :: s9 :: s10 :: s11 :: s12 :: s13 :: s14 :: s15 :: s16 :: s17 :: s18 :: s19 :: s20 :: s21 :: s22 :: s23 :: s24 :: s25 :: (.pointer (some ⟨Tb,0,none⟩)) :: (.int .i64 7) :: (.pointer (some ⟨Tb,2,none⟩)) :: (.string t.name) :: (.pointer (some ⟨Tb,6,none⟩)) :: (.slice p.B t.ls.length p.d) :: u32 :: u33 :: s34 :: s35 :: s36 :: []:List Value).toArray,defers:=[] } w') :
  (Code.region id bar9_ops.toArray true).wp Try.prog Q { tmps:=(s0 :: (.pointer (some ⟨Tb,0,none⟩)) :: (.pointer (some ⟨Rb,0,none⟩)) :: s3 :: s4 :: s5 :: s6 :: s7 :: s8 :: s9 :: s10 :: s11 :: s12 :: s13 :: s14 :: s15 :: s16 :: s17 :: s18 :: s19 :: s20 :: s21 :: s22 :: s23 :: s24 :: s25 :: s26 :: s27 :: s28 :: s29 :: s30 :: s31 :: s32 :: s33 :: s34 :: s35 :: s36 :: []:List Value).toArray,defers:=[] } w0:=by
 refine wp_region_est (by kernel_rfl) (est2 8 0 (fun k=>k=Rb) (fun _=>False)) bar9_C (bar9_F w0 Tb Rb S p t) (est2_dis (fun _ _ h=>h)) (est2_range (fun k hk=>hk ▸ blk_lt hR) (fun _ h=>h.elim)) (by rfl) (by kernel_rfl) (bar9_obs w0.drew Tb Rb S p t hT hR hTR hS (TmS.same hin (fun _ _ _=>rfl)) hk7 _ _ rfl rfl) ?_
 intro a w' O hd hs hb hf hf2 ha hsame
 have hl:=slots_eq (ops:=bar9_ops.toArray) [(26,.pointer (some ⟨Tb,0,none⟩)),(27,.int .i64 7),(28,.pointer (some ⟨Tb,2,none⟩)),(29,.string t.name),(30,.pointer (some ⟨Tb,6,none⟩)),(31,.slice p.B t.ls.length p.d),(32,a.tmps.getD 32 undef),(33,a.tmps.getD 33 undef)] (show a.tmps.size=37 from hs) (fun i h=>hsame i h) ⟨(hf 0 _ 26 rfl rfl (by decide)).1,(hf 1 _ 27 rfl rfl (by decide)).1,(hf 2 _ 28 rfl rfl (by decide)).1,(hf 3 _ 29 rfl rfl (by decide)).1,(hf 4 _ 30 rfl rfl (by decide)).1,(hf 5 _ 31 rfl rfl (by decide)).1,rfl,rfl,trivial⟩ (by kernel_rfl)
 obtain ⟨tmps,defers⟩:=a
 obtain rfl:defers=[]:=hd
 have hl':tmps=_:=hl
 rw [hl']
 obtain ⟨⟨v8,hv8⟩,ho8⟩:=hf2 8 _ rfl rfl (by decide)
 have hb':=est2_chg hb
 refine Eq.mp ?_ (hend w' (tmps.getD 32 undef) (tmps.getD 33 undef) v8 (O 8) ⟨hb'.os,hb'.tape,hb'.output,hb'.size,hb'.block⟩ hv8 ho8)
 kernel_rfl

set_option maxRecDepth 100000 in
set_option maxHeartbeats 4000000 in
theorem bare7R_calls (S:Nat→Prop) (g0:Nat) (hS:∀ k,S k→k<g0) (t:Tm) (p:Pl) (w:World) (hg0:g0≤w.heap.size) (hkk:t.kind=7) (hin:TmS w S p t):Calls Try.prog 99 #[tmV p t] w (TmGotR w S (bareG t)):=by
 obtain ⟨W,hW⟩:∃ W,W=(w.alloc (tmO p t)).alloc (outK 0 (.slice none 0 0)):=⟨_,rfl⟩
 have hb:Below w.heap.size w W:=by rw [hW];exact below_alloc (below_alloc (Below.refl _ _) _) _
 have HX:=Ak (show W.heap[w.heap.size]?=some (tmO p t) by rw [hW];exact box0 w _ _)
 have HX1:=Ak (show W.heap[w.heap.size+1]?=some (outK 0 (.slice none 0 0)) by rw [hW];exact box1 w _ _)
 have HB:=Ak hb
 have HZ:=Ak (show w.heap.size+1<W.heap.size by rw [hW];simp)
 have HIN:=Ak hin
 have HSS:=Ak hS
 have HK:=Ak hkk
 have HLA:=Ak (leafR_27 (.inr hkk))
 have HE:=Ak (bareG_7 HLA.out hkk)
 have hlen:t.kids.length≤9223372036854775807:=by have:=hin.len;omega
 clear hb hin hkk hS
 unfold tmV
 unfold tmO at hW
 go_enter Try.func99,Try.ntmps99
 go_upto_region 1 with (fail)
 rw [← hW]
 clear hW
 go_upto_region 9 with (first
  | (refine wpList_load_row rfl 28 _ rfl (w.heap.size) rfl 28 _ (0,0) _ HX.out Try.underlying28 rfl (by kernel_rfl) ?_)
  | (go_at_call 77;go_must (refine (refleaf_calls t p W hlen).mono ?_;rintro e w2 ⟨rfl,hb⟩;rw [HLA.out];have hX1:=(hb.block _ (blk_lt HX1.out)).trans HX1.out;have HX2:=Ak hX1;have hX0:=(hb.block _ (blk_lt HX.out)).trans HX.out;have HX02:=Ak hX0;have HB2:=Ak (below_then HB.out HB.out.size hb);obtain ⟨r0,r1,r2,r3,r4,r5,r6,r7,f0,f1,f2,f3,f4,f5,f6,f7⟩:=row8c hX1;obtain ⟨t0,t1,t2,t3,t4,t5,t6,t7⟩:=row8 hX0;rw [HK.out] at t0;clear hb hX0 hX1)))
 have hz:=HZ.out
 have hz2:=blk_lt HX2.out
 refine bar9_region w2 w.heap.size (w.heap.size+1) S p t HX02.out HX2.out (by omega) (fun k h=>by have:=HSS.out k h;omega) (TmS.stay HIN.out HSS.out (HB2.out.mono hg0)) HK.out ?_
 clear r0 r1 r2 r3 r4 r5 r6 r7 f0 f1 f2 f3 f4 f5 f6 f7 t0 t1 t2 t3 t4 t5 t6 t7
 intros
 rename_i LL hC9 hF9 hO9
 obtain ⟨pp,hpe,q9,hq1,hq2,hq3,hq4⟩:=hF9
 obtain rfl:pp=w.heap.size+1:=by injection hpe with hpe;injection hpe with hpe;injection hpe with hpe;exact hpe.symm
 obtain ⟨y,hy⟩:∃ y,y=Tm.mk 7 0 t.name lv0 t.ls []:=⟨_,rfl⟩
 rw [← hy] at hq1 hq3 hq4
 have HY:=Ak (HE.out.trans hy.symm)
 have HQ1:=Ak hq1
 have HQ3:=Ak hq3
 have HQ4:=Ak hq4
 have HO9:=Ak hO9
 have HC9:=Ak hC9
 clear hq1 hq2 hq3 hq4 hO9 hC9 hpe hy HE
 go_wp2
 refine bodyPost_ret (results_c rfl _ _ (w.heap.size+1) 28 #[.int .i64 y.kind,.int .i64 y.num,.string y.name,.int .i64 y.lv.kind,.int .i64 y.lv.num,.slice q9.A y.lv.kids.length q9.c,.slice q9.B y.ls.length q9.d,.slice q9.K y.kids.length q9.e] (0,0) _ rfl HQ1.out Try.underlying28 rfl (by kernel_rfl)) rfl ?_
 rw [HY.out]
 have hfin:∀ k,(LL k∧k≠w.heap.size+1)→w.heap.size≤k:=fun k hk=>by
  rcases Nat.lt_or_ge k w2.heap.size with h | h
  ·exact absurd (est2_fix h (fun e=>hk.2 e) (fun e=>e.elim)) (HO9.out k hk.1).2
  ·omega
 exact ⟨q9,rfl,HQ3.out.mono fun k hk hz'=>hk.imp id (hfin k),HQ4.out.same (fun k hk hz'=>⟨hfin k hk,rfl⟩) (fun _ _ _=>rfl),Chg.trans_below HB2.out HC9.out (fun k e=>by rcases e with e | e;(have e:k=w.heap.size+1:=e;omega);exact e.elim) HB2.out.size⟩
theorem bareR_calls (S:Nat→Prop) (g0:Nat) (hS:∀ k,S k→k<g0) (t:Tm) (p:Pl) (w:World) (hg0:g0≤w.heap.size) (hin:TmS w S p t):Calls Try.prog 99 #[tmV p t] w (TmGotR w S (bareG t)):=by
 by_cases h7:t.kind=7
 ·exact bare7R_calls S g0 hS t p w hg0 h7 hin
 have he:(bareG t).ls=[]:=by
  unfold bareG
  rw [if_neg h7]
  split
  ·rfl
  ·split
   ·rfl
   ·split
    ·rfl
    ·rfl
 exact (bareG_calls S g0 hS t p w hg0 hin).mono fun e w' ⟨q,h1,h2,h3⟩=>⟨q,h1,h2,.inl he,h3⟩
end Go.Proofs.Ytdboloabpjmgaaa

namespace Go.Proofs.Ytdboloabpjmgaaa
open Go.RowKit Go.Proofs.YtdboloabpjmgaaaW.PrintWords Go.RegionInvYtdboloabpjmgaaa Go.RegionEYtdboloabpjmgaaa

def upL (vs ls:List Lv) (j:Nat):List Lv:=(ls.take j).map (instL vs) ++ ls.drop j
theorem upL_len (vs ls:List Lv) (j:Nat):(upL vs ls j).length=ls.length:=by unfold upL;simp;omega
theorem upL_at {vs ls:List Lv} {j:Nat} {x:Lv} (h:ls[j]?=some x):(upL vs ls j)[j]?=some x:=by
 have hj:=(List.getElem?_eq_some_iff.1 h).1
 unfold upL
 rw [List.getElem?_append_right (by simp;omega)]
 simp only [List.length_map,List.length_take,List.getElem?_drop]
 rw [show j+(j - min j ls.length)=j by omega]
 exact h
theorem upL_set {vs ls:List Lv} {j:Nat} {x:Lv} (h:ls[j]?=some x):(upL vs ls j).set j (instL vs x)=upL vs ls (j+1):=by
 have hj:=(List.getElem?_eq_some_iff.1 h).1
 have hx:=(List.getElem?_eq_some_iff.1 h).2
 unfold upL
 rw [List.set_append_right _ _ (by simp;omega),List.take_add_one,h,List.map_append,List.append_assoc]
 congr 1
 simp only [List.length_map,List.length_take]
 rw [show j - min j ls.length=0 by omega,List.drop_eq_getElem_cons hj,List.set_cons_zero]
 rfl
theorem upL_0 (vs ls:List Lv):upL vs ls 0=ls:=by simp [upL]
theorem upL_all (vs ls:List Lv):upL vs ls ls.length=ls.map (instL vs):=by simp [upL]
structure LfB (w wr:World) (O:Nat→Prop) (dd ff by_:Int) (cp:Pl) (cv:Tm) (L9:Option Addr) (n9 c9:Nat) (q:Pl) (x:Tm):Prop where
 c:wr.heap[w.heap.size]?=some (.cells (chG dd ff by_ cp cv L9 n9 c9) 71 (0,0))
 x:wr.heap[w.heap.size+1]?=some (tmO q x)
 r:wr.heap[w.heap.size+1+1]?=some (outK 0 (.slice none 0 0))
 ch:Chg O w wr
theorem LfB.later {w wr W:World} {O:Nat→Prop} {dd ff by_:Int} {cp:Pl} {cv:Tm} {L9:Option Addr} {n9 c9:Nat} {q:Pl} {x:Tm} (h:LfB w wr O dd ff by_ cp cv L9 n9 c9 q x) (hb:Below wr.heap.size wr W):LfB w W O dd ff by_ cp cv L9 n9 c9 q x:=
 ⟨(hb.block _ (blk_lt h.c)).trans h.c,(hb.block _ (blk_lt h.x)).trans h.x,(hb.block _ (blk_lt h.r)).trans h.r,chg_trans h.ch (Chg.of_below hb)⟩
theorem LfB.row {w wr W:World} {O:Nat→Prop} {dd ff by_:Int} {cp:Pl} {cv:Tm} {L9:Option Addr} {n9 c9 rb:Nat} {q:Pl} {x:Tm} (h:LfB w wr O dd ff by_ cp cv L9 n9 c9 q x) (hb:Chg (fun k=>k=rb) wr W) (hO:O rb) (hr:rb<w.heap.size):LfB w W O dd ff by_ cp cv L9 n9 c9 q x:=
 ⟨(hb.block _ (blk_lt h.c) (by omega)).trans h.c,(hb.block _ (blk_lt h.x) (by omega)).trans h.x,(hb.block _ (blk_lt h.r) (by omega)).trans h.r,chg_trans h.ch (hb.mono fun k e=>e ▸ hO)⟩
theorem LfB.c11 {w wr:World} {O:Nat→Prop} {dd ff by_:Int} {cp:Pl} {cv:Tm} {L9:Option Addr} {n9 c9:Nat} {q:Pl} {x:Tm} (h:LfB w wr O dd ff by_ cp cv L9 n9 c9 q x):wr.cell? ⟨w.heap.size,11,none⟩=some (.slice L9 n9 c9):=by rw [cell_of_row _ _ _ _ _ _ h.c];rfl
theorem LfB.x6 {w wr:World} {O:Nat→Prop} {dd ff by_:Int} {cp:Pl} {cv:Tm} {L9:Option Addr} {n9 c9:Nat} {q:Pl} {x:Tm} (h:LfB w wr O dd ff by_ cp cv L9 n9 c9 q x):wr.cell? ⟨w.heap.size+1,6,none⟩=some (.slice q.B x.ls.length q.d):=by rw [cell_of_row _ _ _ _ _ _ h.x];rfl
theorem LfB.vs {w wr:World} {O:Nat→Prop} {dd ff by_:Int} {cp:Pl} {cv:Tm} {L9:Option Addr} {n9 c9 g1:Nat} {q:Pl} {x:Tm} {vs:List Lv} (h:LfB w wr O dd ff by_ cp cv L9 n9 c9 q x) (hg1:g1≤w.heap.size) (hO:∀ k,O k→g1≤k∧k<w.heap.size) (hvs:LvS w (fun k=>k<g1) L9 c9 (.mk 0 0 vs)):LvIn wr wr.heap.size L9 c9 (.mk 0 0 vs):=
 (hvs.same fun k hk hz=>h.ch.block k hz (fun hO'=>by have:=(hO k hO').1;omega)).all
structure LfR (w wr:World) (rb n:Nat) (S:Nat→Prop) (ls:List Lv):Prop where
 row:LsR wr rb (fun k=>S k∨w.heap.size+3≤k) ls
 len:ls.length=n
theorem LfR.facts {w wr:World} {rb n j:Nat} {S:Nat→Prop} {ls:List Lv} {x:Lv} (h:LfR w wr rb n S ls) (hx:ls[j]?=some x) (ad:Addr) (hd:ad=⟨rb,0,none⟩):∃ A c,wr.cell? (ad.add (j * 3))=some (.int .i64 x.kind)∧wr.cell? ⟨(ad.add (j * 3)).block,(ad.add (j * 3)).off+1,none⟩=some (.int .i64 x.num)∧wr.cell? ⟨(ad.add (j * 3)).block,(ad.add (j * 3)).off+2,none⟩=some (.slice A x.kids.length c)∧LvS wr (fun k=>S k∨w.heap.size+3≤k) A c x:=by
 subst hd
 obtain ⟨A,c,h1,h2,h3,h4⟩:=h.row.at_ hx
 rw [add_plain]
 exact ⟨A,c,h1,h2,h3,h4⟩
theorem LfR.store {w wr w5:World} {rb n j:Nat} {S:Nat→Prop} {ls:List Lv} {x:Lv} (h:LfR w wr rb n S ls) (hx:ls[j]?=some x) (ad:Addr) (hd:ad=⟨rb,0,none⟩) (hb:Below wr.heap.size wr w5) (v0 v1:Value):∃ A c,w5.cell? (ad.add (j * 3))=some (.int .i64 x.kind)∧(w5.setCell (ad.add (j * 3)) v0).cell? ⟨(ad.add (j * 3)).block,(ad.add (j * 3)).off+1,none⟩=some (.int .i64 x.num)∧((w5.setCell (ad.add (j * 3)) v0).setCell ⟨(ad.add (j * 3)).block,(ad.add (j * 3)).off+1,none⟩ v1).cell? ⟨(ad.add (j * 3)).block,(ad.add (j * 3)).off+2,none⟩=some (.slice A x.kids.length c) ∧
  w5.frozen? (ad.add (j * 3))=false∧(w5.setCell (ad.add (j * 3)) v0).frozen? ⟨(ad.add (j * 3)).block,(ad.add (j * 3)).off+1,none⟩=false∧((w5.setCell (ad.add (j * 3)) v0).setCell ⟨(ad.add (j * 3)).block,(ad.add (j * 3)).off+1,none⟩ v1).frozen? ⟨(ad.add (j * 3)).block,(ad.add (j * 3)).off+2,none⟩=false:=by
 have h':LfR w w5 rb n S ls:=⟨h.row.same (hb.block _ (by obtain ⟨arr,ha,-⟩:=h.row;exact blk_lt ha)) (fun k _ hk=>hb.block k hk),h.len⟩
 subst hd
 rw [add_plain]
 obtain ⟨arr,ha,hl,hxx⟩:=h'.row
 obtain ⟨A,c,h1,h2,h3,-⟩:=hxx j x hx
 have p1:=blk_put ha (j * 3) v0 rfl
 have p2:=blk_put p1 (j * 3+1) v1 rfl
 refine ⟨A,c,?_,?_,?_,blk_frozen ha _,blk_frozen p1 _,blk_frozen p2 _⟩
 ·rw [cell_of_row _ _ _ _ _ _ ha];simpa using h1
 ·rw [cell_of_row _ _ _ _ _ _ p1]
  show (arr.setIfInBounds (j * 3) v0)[j * 3+1]?=_
  rw [Array.getElem?_setIfInBounds,if_neg (by omega)];exact h2
 ·rw [cell_of_row _ _ _ _ _ _ p2]
  show ((arr.setIfInBounds (j * 3) v0).setIfInBounds (j * 3+1) v1)[j * 3+2]?=_
  rw [Array.getElem?_setIfInBounds,if_neg (by omega),Array.getElem?_setIfInBounds,if_neg (by omega)];exact h3
theorem LfR.later {w wr w5:World} {rb n:Nat} {S:Nat→Prop} {ls:List Lv} (h:LfR w wr rb n S ls) (hb:Below wr.heap.size wr w5):LfR w w5 rb n S ls:=
 ⟨h.row.same (hb.block _ (by obtain ⟨arr,ha,-⟩:=h.row;exact blk_lt ha)) (fun k _ hk=>hb.block k hk),h.len⟩
theorem lfr_set {w w5:World} {rb n j:Nat} {S:Nat→Prop} {vs ls:List Lv} {x y:Lv} {A:Option Addr} {c:Nat} (h:LfR w w5 rb n S (upL vs ls j)) (hx:ls[j]?=some x) (hy:y=instL vs x) (ad:Addr) (hd:ad=⟨rb,0,none⟩) (hS:¬ S rb) (hr:rb<w.heap.size) (hl:LvS w5 (fun k=>S k∨w.heap.size+3≤k) A c y) :
  LfR w (((w5.setCell (ad.add (j * 3)) (.int .i64 y.kind)).setCell ⟨(ad.add (j * 3)).block,(ad.add (j * 3)).off+1,none⟩ (.int .i64 y.num)).setCell ⟨(ad.add (j * 3)).block,(ad.add (j * 3)).off+2,none⟩ (.slice A y.kids.length c)) rb n S (upL vs ls (j+1))∧Chg (fun k=>k=rb) w5 (((w5.setCell (ad.add (j * 3)) (.int .i64 y.kind)).setCell ⟨(ad.add (j * 3)).block,(ad.add (j * 3)).off+1,none⟩ (.int .i64 y.num)).setCell ⟨(ad.add (j * 3)).block,(ad.add (j * 3)).off+2,none⟩ (.slice A y.kids.length c)):=by
 subst hd
 rw [add_plain]
 have hj:=(List.getElem?_eq_some_iff.1 hx).1
 refine ⟨⟨?_,by rw [upL_len,← h.len,upL_len]⟩,chg_set3' w5 rb (j * 3) (j * 3+1) (j * 3+2) _ _ _⟩
 have:=h.row.set (j:=j) (by rw [upL_len];exact hj) (fun e=>e.elim hS fun e=>by omega) y A c hl
 rw [hy] at this
 rw [upL_set hx] at this
 rw [hy]
 exact this
set_option maxRecDepth 100000 in
set_option maxHeartbeats 8000000 in
theorem leafLv_calls (vs:List Lv) (L9:Option Addr) (n9 c9:Nat) (ff by_ d:Int) (cp:Pl) (cv:Tm) (g1:Nat) (S O:Nat→Prop) (x:Tm) (q:Pl) (w:World) (hn:n9=vs.length) (hx1:x.ls=[]∨x.lv=lv0) (hx2:x.kind=2→x.ls=[]) (hx3:x.kids=[])
  (hg1:g1≤w.heap.size) (hS:∀ k,S k→k<w.heap.size) (hO:∀ k,O k→g1≤k∧k<w.heap.size) (hvs:LvS w (fun k=>k<g1) L9 c9 (.mk 0 0 vs)) (hq:TmS w (fun k=>S k∨O k) q x) (hf:LsF w S O q.B x.ls) :
  Calls Try.prog 98 #[chGV 2 ff by_ cp cv L9 n9 c9,tmV q x,.int .i64 d] w fun e w'=>∃ q',e=.returned (tmV q' (lvG vs x))∧TmS w' (fun k=>S k∨O k∨w.heap.size≤k) q' (lvG vs x)∧Chg O w w':=by
 obtain ⟨xk,xn,xnm,xlv,xls,xks⟩:=x
 obtain rfl:xks=[]:=hx3
 replace hx1:xls=[]∨xlv=lv0:=hx1
 replace hx2:xk=2→xls=[]:=hx2
 replace hf:LsF w S O q.B xls:=hf
 have hfit:=hq.fit
 obtain ⟨W,hW⟩:∃ W,W=rwgW w 2 ff by_ cp cv L9 n9 c9 q (.mk xk xn xnm xlv xls []):=⟨_,rfl⟩
 obtain ⟨hb,hc3,hx4,hr6,hz⟩:=rwg_box w 2 ff by_ cp cv L9 n9 c9 q (.mk xk xn xnm xlv xls [])
 rw [← hW] at hb hc3 hx4 hr6 hz
 have HST:=Ak (show LfB w W O 2 ff by_ cp cv L9 n9 c9 q (.mk xk xn xnm xlv xls []) from ⟨hc3,hx4,hr6,Chg.of_below hb⟩)
 have HZ:=Ak hz
 have HSS:=Ak hS
 have HOO:=Ak hO
 have HVS:=Ak hvs
 have HN:=Ak hn
 have HFT:=Ak hfit
 have HBW:=Ak hb
 have HT:=Ak (TmS.later (hq.mono (S':=fun k=>(S k∨O k)∧k<w.heap.size) fun k h hz=>⟨h,hz⟩) hb)
 have HLE:=Ak hq.len.2
 have hll:=hq.lv.len
 have hln:=hq.ls.len
 have hnl:xls.length * 40≤140737488355328:=hfit.2.2
 replace hll:xlv.kids.length≤q.c∧q.c≤9223372036854775807:=hll
 replace hln:xls.length≤q.d∧q.d≤9223372036854775807:=hln
 have c0:W.cell? ⟨w.heap.size,0,none⟩=some (.int .i64 2):=by rw [cell_of_row _ _ _ _ _ _ hc3];rfl
 have c11:=HST.out.c11
 obtain ⟨x0,x1,x2,x3,x4,x5,x6,x7⟩:=row8 hx4
 replace x0:W.cell? ⟨w.heap.size+1,0,none⟩=some (.int .i64 xk):=x0
 replace x3:W.cell? ⟨w.heap.size+1,3,none⟩=some (.int .i64 xlv.kind):=x3
 replace x4:W.cell? ⟨w.heap.size+1,4,none⟩=some (.int .i64 xlv.num):=x4
 replace x5:W.cell? ⟨w.heap.size+1,5,none⟩=some (.slice q.A xlv.kids.length q.c):=x5
 replace x6:W.cell? ⟨w.heap.size+1,6,none⟩=some (.slice q.B xls.length q.d):=x6
 have HFF:=Ak hf
 clear hb hc3 hr6 hz hS hO hvs hq hfit hf hx4 hn x1 x2 x7
 unfold chGV tmV
 unfold rwgW tmO at hW
 go_enter Try.func98,Try.ntmps98
 go_upto_region 1 with (fail)
 rw [← hW]
 clear hW
 go_upto_block 0 with (fail)
 go_cut [] (fun wr=>∃ q':Pl,Aside0 (wr.heap[w.heap.size+1]?=some (tmO q' (lvG vs (.mk xk xn xnm xlv xls []))))∧Aside0 (wr.heap[w.heap.size+1+1]?=some (outK 0 (.slice none 0 0)))∧Aside0 (TmS wr (fun k=>(S k∨O k)∧k<w.heap.size∨w.heap.size+3≤k) q' (lvG vs (.mk xk xn xnm xlv xls [])))∧Aside0 (Chg O w wr))
 case first =>
  by_cases hk:xk=2
  ·obtain rfl:=hx2 hk
   have HE:=Ak (show lvG vs (.mk xk xn xnm xlv [] [])=.mk xk xn xnm (instL vs xlv) [] [] by unfold lvG;show Tm.mk xk xn xnm (if xk=2 then _ else _) _ _=_;rw [if_pos hk];rfl)
   have b2:(xk == 2)=true:=by simp [hk]
   obtain ⟨y,hy⟩:∃ y,y=instL vs xlv:=⟨_,rfl⟩
   rw [← hy] at HE
   have HY:=Ak hy
   clear hk hy
   go_upto_region 4 with (first
    | (go_at_call 54;go_must (refine (refInst_calls q.A q.c xlv L9 n9 c9 vs W HT.out.lv.all (HST.out.vs hg1 HOO.out HVS.out) HN.out).mono ?_;rw [← HY.out];rintro e w2 ⟨A2,cc2,rfl,hl2,hb2⟩;have HL2:=Ak hl2;have HST2:=Ak (HST.out.later hb2);have HB2:=Ak hb2;obtain ⟨z0,z1,z2,z3,z4,z5,z6,z7⟩:=row8 HST2.out.x;have fz3:=blk_frozen HST2.out.x 3;have fz4:=blk_frozen HST2.out.x 4;have fz5:=blk_frozen HST2.out.x 5;clear hl2 hb2;simp only [lvV])))
   obtain ⟨W5,hW5⟩:∃ W5,W5=((w2.setCell ⟨w.heap.size+1,3,none⟩ (.int .i64 y.kind)).setCell ⟨w.heap.size+1,4,none⟩ (.int .i64 y.num)).setCell ⟨w.heap.size+1,5,none⟩ (.slice A2 y.kids.length cc2):=⟨_,rfl⟩
   have hch:=chg_set3' w2 (w.heap.size+1) 3 4 5 (.int .i64 y.kind) (.int .i64 y.num) (.slice A2 y.kids.length cc2)
   have hxn:=blk_put (blk_put (blk_put HST2.out.x 3 (.int .i64 y.kind) rfl) 4 (.int .i64 y.num) rfl) 5 (.slice A2 y.kids.length cc2) rfl
   rw [← hW5] at hch hxn
   have HX5:=Ak (show W5.heap[w.heap.size+1]?=some (tmO ⟨A2,cc2,q.B,q.d,q.K,q.e⟩ (.mk xk xn xnm y [] [])) from hxn)
   have HCH:=Ak hch
   have v6:W5.cell? ⟨w.heap.size+1,6,none⟩=some (.slice q.B 0 q.d):=by rw [cell_of_row _ _ _ _ _ _ HX5.out];rfl
   rw [← hW5]
   clear hch hxn hW5 z0 z1 z2 z3 z4 z5 z6 z7 fz3 fz4 fz5 c0 c11 x0 x3 x4 x5 x6
   go_wp2
   go_loopw [23] (fun i wr=>i=.int .i64 0∧wr=W5) (fun _ _=>0)
   case atStart=>exact ⟨rfl,rfl⟩
   case round =>
    obtain ⟨rfl,rfl⟩:=hrel
    go_wp2
    go_meet
    case rel =>
     rw [HE.out]
     have hz:=HZ.out
     have hzz:=HB2.out.size
     refine ⟨⟨A2,cc2,q.B,q.d,q.K,q.e⟩,HX5,⟨(HCH.out.block _ (blk_lt HST2.out.r) (by omega)).trans HST2.out.r⟩,⟨?_⟩,⟨⟨HCH.out.os.trans HST2.out.ch.os,HCH.out.tape.trans HST2.out.ch.tape,HCH.out.output.trans HST2.out.ch.output,Nat.le_trans HST2.out.ch.size HCH.out.size,fun k hk hO=>(HCH.out.block k (by have:=HST2.out.ch.size;omega) (by omega)).trans (HST2.out.ch.block k hk hO)⟩⟩⟩
     have hlf:LvS wr (fun k=>(S k∨O k)∧k<w.heap.size∨w.heap.size+3≤k) A2 cc2 y:=(HL2.out.same fun k hk hz'=>HCH.out.block k hz' (fun e=>by rcases hk with hk | hk;exact hk.elim;omega)).mono fun k hk _=>.inr (by rcases hk with hk | hk;exact hk.elim;omega)
     have hls0:LvS wr (fun k=>(S k∨O k)∧k<w.heap.size∨w.heap.size+3≤k) q.B q.d (.mk 0 0 []):=.mk (fun _=>none) (fun _=>0) (Nat.zero_le _) hln.2 (fun i x h=>by simp at h) (fun i x h=>by simp at h)
     exact .mk (fun _=>default) hlf hls0 (Nat.zero_le _) HLE.out HFT.out (fun i x h=>by simp [Tm.kids] at h) (fun i x h=>by simp [Tm.kids] at h)
  ·have b2:(xk == 2)=false:=by simp [hk]
   have HE:=Ak (show lvG vs (.mk xk xn xnm xlv xls [])=.mk xk xn xnm xlv (xls.map (instL vs)) [] by unfold lvG;show Tm.mk xk xn xnm (if xk=2 then _ else _) _ _=_;rw [if_neg hk];rfl)
   obtain ⟨n,hnn⟩:∃ n,n=xls.length:=⟨_,rfl⟩
   rw [← hnn] at x6 hln hnl
   have HNN:=Ak hnn
   clear hk hnn hx2
   by_cases hf:xls=[]
   ·obtain rfl:n=0:=by rw [HNN.out,hf];rfl
    have HLS:=Ak hf
    clear hf hln
    go_wp2
    go_loopw [23] (fun i wr=>i=.int .i64 0∧wr=W) (fun _ _=>0)
    case atStart=>exact ⟨rfl,rfl⟩
    case round =>
     obtain ⟨rfl,rfl⟩:=hrel
     go_wp2
     go_meet
     case rel =>
      rw [HE.out]
      have hl0:=HLS.out
      subst hl0
      exact ⟨q,⟨HST.out.x⟩,⟨HST.out.r⟩,⟨HT.out.mono fun k hk _=>.inl hk⟩,⟨HST.out.ch⟩⟩
   ·obtain ⟨rb,hqB,hOr,hSr,hrow⟩:=HFF.out.resolve_left hf
    obtain ⟨ad,had⟩:∃ ad:Addr,ad=⟨rb,0,none⟩:=⟨_,rfl⟩
    rw [hqB,← had] at x6
    have HAD:=Ak had
    have HQB:=Ak hqB
    have HOR:=Ak hOr
    have HSR:=Ak hSr
    have HLV:=Ak (hx1.resolve_left hf)
    have hrz:rb<w.heap.size:=(HOO.out rb hOr).2
    have HR0:=Ak (show LfR w W rb n S (upL vs xls 0) from ⟨(hrow.mono fun k h _=>.inl h).same (HBW.out.block _ hrz) (fun k h hz=>HBW.out.block k hz),by rw [upL_0,HNN.out]⟩)
    clear hf had hqB hOr hSr hx1 hrow x3 x4 x5
    go_wp2
    go_loopw [23] (fun i wr=>∃ (j:Nat),i=.int .i64 j∧j≤n∧Aside0 (LfB w wr O 2 ff by_ cp cv L9 n9 c9 q (.mk xk xn xnm xlv xls []))∧Aside0 (LfR w wr rb n S (upL vs xls j))) (fun i _=>n - (intOf i).toNat)
    case atStart=>exact ⟨0,rfl,Nat.zero_le _,HST,HR0⟩
    case round =>
     clear HR0 HST HT HBW HZ c0 c11 x0 x6
     obtain ⟨j,rfl,hj,HST,HR⟩:=hrel
     by_cases hlt:j<n
     ·obtain ⟨x,hx⟩:∃ x,xls[j]?=some x:=⟨_,List.getElem?_eq_getElem (by rw [← HNN.out];exact hlt)⟩
      have HX:=Ak hx
      obtain ⟨A',c',e0,e1,e2,hxin⟩:=HR.out.facts (upL_at hx) ad HAD.out
      have HXIN:=Ak hxin
      have hxl:=hxin.len
      obtain ⟨y,hy⟩:∃ y,y=instL vs x:=⟨_,rfl⟩
      have HY:=Ak hy
      have hba:Below wr.heap.size wr (wr.alloc (.cells #[.int .i64 x.kind,.int .i64 x.num,.slice A' x.kids.length c'] 25 (0,0))):=below_alloc (Below.refl _ _) _
      have a6:=(HST.out.later hba).x6
      have a11:=(HST.out.later hba).c11
      replace a6:(wr.alloc (.cells #[.int .i64 x.kind,.int .i64 x.num,.slice A' x.kids.length c'] 25 (0,0))).cell? ⟨w.heap.size+1,6,none⟩=some (.slice (some ad) n q.d):=by rw [a6,HQB.out,HAD.out,HNN.out];rfl
      clear hx hxin hy hba
      go_upto_block 2 with (fail)
      go_cut [] (fun w5=>Aside0 (LfB w w5 O 2 ff by_ cp cv L9 n9 c9 q (.mk xk xn xnm xlv xls []))∧Aside0 (LfR w w5 rb n S (upL vs xls (j+1))))
      case first =>
       go_upto_region 7 with (fail)
       go_region_law (first
        | (go_simp;go_at_call 54;refine (refInst_calls A' c' x L9 n9 c9 vs _ ((HXIN.out.later (by repeat' first | exact Below.refl _ _ | apply below_drew | apply below_alloc)).all) ((HST.out.later (by repeat' first | exact Below.refl _ _ | apply below_drew | apply below_alloc)).vs hg1 HOO.out HVS.out) HN.out).mono ?_;rw [← HY.out];rintro e w5 ⟨A5,c5,rfl,hl5,hb5⟩;have HB5:=Ak (below_then (show Below wr.heap.size wr _ by repeat' first | exact Below.refl _ _ | apply below_drew | apply below_alloc) (by simp) hb5);have HL5:=Ak (show LvS w5 (fun k=>S k∨w.heap.size+3≤k) A5 c5 y from hl5.mono fun k h _=>h.elim (fun h=>h.elim) fun h=>.inr (by have:=blk_lt HST.out.r;simp at h;omega));have ST5:=Ak (HST.out.later HB5.out);have b6:w5.cell? ⟨w.heap.size+1,6,none⟩=some (.slice (some ad) n q.d):=ST5.out.x6.trans (by rw [HQB.out,HAD.out,HNN.out];rfl);obtain ⟨A0,c0',s0,s1,s2,z0,z1,z2⟩:=HR.out.store (upL_at HX.out) ad HAD.out HB5.out (.int .i64 y.kind) (.int .i64 y.num);clear hl5 hb5;simp only [lvV]))
       all_goals (go_wp2;go_meet)
       all_goals (obtain ⟨hs1,hs2⟩:=lfr_set (HR.out.later HB5.out) HX.out HY.out ad HAD.out HSR.out hrz HL5.out;have hs3:=ST5.out.row hs2 HOR.out hrz;exact ⟨⟨hs3⟩,⟨hs1⟩⟩)
      case rest =>
       clear HST HR HXIN e0 e1 e2 a6 a11
       obtain ⟨HST,HR⟩:=hcut
       go_wp2
       go_roundw
       case rel=>exact ⟨j+1,by go_num,by omega,HST,HR⟩
       case measure=>(simp [intOf];try omega)
     ·obtain rfl:j=n:=by omega
      have hlt':decide ((j:Int)<j)=false:=by simp
      go_wp2
      go_meet
      case rel =>
       have hall:upL vs xls j=xls.map (instL vs):=by rw [HNN.out];exact upL_all vs xls
       have hrow:=HR.out.row
       rw [hall] at hrow
       rw [HE.out]
       have hlv:=HLV.out
       subst hlv
       have hls:LvS wr (fun k=>(S k∨O k)∧k<w.heap.size∨w.heap.size+3≤k) q.B q.d (.mk 0 0 (xls.map (instL vs))):=by
        rw [HQB.out]
        exact (LsR.lvs (S':=fun k=>k=rb∨S k∨w.heap.size+3≤k) hrow (fun k h=>.inr h) (.inl rfl) (by rw [List.length_map,← HNN.out];exact hln.1) hln.2 0 0).mono fun k hk hz=>by
         rcases hk with hk | hk | hk
         ·exact .inl ⟨.inr (hk ▸ HOR.out),hk ▸ hrz⟩
         ·exact .inl ⟨.inl hk,HSS.out k hk⟩
         ·exact .inr hk
       refine ⟨q,⟨?_⟩,⟨HST.out.r⟩,⟨.mk (fun _=>default) (.mk (fun _=>none) (fun _=>0) (Nat.zero_le _) hll.2 (fun i x h=>by simp at h) (fun i x h=>by simp at h)) hls (Nat.zero_le _) HLE.out ?_ (fun i x h=>by simp [Tm.kids] at h) (fun i x h=>by simp [Tm.kids] at h)⟩,⟨HST.out.ch⟩⟩
       ·rw [HST.out.x]
        show some (Obj.cells #[_,_,_,_,_,_,.slice q.B xls.length q.d,_] _ _)=some (Obj.cells #[_,_,_,_,_,_,.slice q.B (xls.map (instL vs)).length q.d,_] _ _)
        rw [List.length_map]
        rfl
       ·exact ⟨HFT.out.1,HFT.out.2.1,by rw [List.length_map];exact HFT.out.2.2⟩
 case rest =>
  clear HST HT HBW c0 c11 x0 x3 x4 x5 x6
  obtain ⟨q',HX,HRS,HTM,HCH⟩:=hcut
  obtain ⟨y,hy⟩:∃ y,y=lvG vs (.mk xk xn xnm xlv xls []):=⟨_,rfl⟩
  rw [← hy] at HX HTM
  have HY:=Ak hy
  clear hy
  obtain ⟨r0,r1,r2,r3,r4,r5,r6,r7,f0,f1,f2,f3,f4,f5,f6,f7⟩:=row8c HRS.out
  go_wp2_with (refine wpList_load_row rfl 28 _ rfl (w.heap.size+1) rfl 28 _ (0,0) _ HX.out Try.underlying28 rfl (by kernel_rfl) ?_)
  refine bodyPost_ret (results_c rfl _ _ (w.heap.size+1+1) 28 #[.int .i64 y.kind,.int .i64 y.num,.string y.name,.int .i64 y.lv.kind,.int .i64 y.lv.num,.slice q'.A y.lv.kids.length q'.c,.slice q'.B y.ls.length q'.d,.slice q'.K y.kids.length q'.e] (0,0) _ rfl (set8 HRS.out) Try.underlying28 rfl (by kernel_rfl)) rfl ?_
  have hch:=chg_set8 wc (w.heap.size+1+1) (.int .i64 y.kind) (.int .i64 y.num) (.string y.name) (.int .i64 y.lv.kind) (.int .i64 y.lv.num) (.slice q'.A y.lv.kids.length q'.c) (.slice q'.B y.ls.length q'.d) (.slice q'.K y.kids.length q'.e)
  rw [← HY.out]
  exact ⟨q',rfl,(HTM.out.same fun k hk hz=>hch.block k hz (by rcases hk with hk | hk <;> omega)).mono fun k hk _=>by rcases hk with hk | hk;exact hk.1.imp id .inl;exact .inr (.inr (by omega)),⟨hch.os.trans HCH.out.os,hch.tape.trans HCH.out.tape,hch.output.trans HCH.out.output,Nat.le_trans HCH.out.size hch.size,fun k hk hO=>(hch.block k (by have:=HCH.out.size;omega) (by omega)).trans (HCH.out.block k hk hO)⟩⟩
end Go.Proofs.Ytdboloabpjmgaaa

namespace Go.Proofs.Ytdboloabpjmgaaa
open Go.RowKit Go.Proofs.YtdboloabpjmgaaaW.PrintWords Go.RegionInvYtdboloabpjmgaaa Go.RegionEYtdboloabpjmgaaa
set_option linter.unusedVariables false

def rg2l_ops:List Oper:=[
 { dst:=some 18,op:=Go.Op.load 71 (Go.Operand.tmp 3),type:=71,pos:= "ref.go:202",after:=#[],guard:=none },
 { dst:=some 19,op:=Go.Op.load 28 (Go.Operand.tmp 4),type:=28,pos:= "ref.go:202",after:=#[],guard:=none },
 { dst:=some 20,op:=Go.Op.call { callee:=Go.Callee.value (Go.Operand.func 99),args:=#[Go.Operand.tmp 19],argTypes:=#[28] },type:=28,pos:= "ref.go:202",after:=#[{ on:=1,ground:=Go.Ground.data }],guard:=none },
 { dst:=some 21,op:=Go.Op.move (Go.Operand.tmp 2),type:=3,pos:= "ref.go:202",after:=#[],guard:=none },
 { dst:=some 22,op:=Go.Op.call { callee:=Go.Callee.value (Go.Operand.func 98),args:=#[Go.Operand.tmp 18,Go.Operand.tmp 20,Go.Operand.tmp 21],argTypes:=#[71,28,3] },type:=28,pos:= "ref.go:202",after:=#[{ on:=0,ground:=Go.Ground.data },{ on:=2,ground:=Go.Ground.data },{ on:=3,ground:=Go.Ground.data },{ on:=2,ground:=Go.Ground.chain }],guard:=none },
 { dst:=none,op:=Go.Op.store 28 (Go.Operand.tmp 6) (Go.Operand.tmp 22),type:=0,pos:= "ref.go:202",after:=#[{ on:=4,ground:=Go.Ground.data },{ on:=4,ground:=Go.Ground.chain },{ on:=0,ground:=Go.Ground.phase },{ on:=1,ground:=Go.Ground.phase },{ on:=2,ground:=Go.Ground.phase },{ on:=3,ground:=Go.Ground.phase },{ on:=4,ground:=Go.Ground.phase }],guard:=none }]
def rg2l_F (w0:World) (Cb Tb Rb:Nat) (S:Nat→Prop) (dd ff by_:Int) (cp:Pl) (cv:Tm) (L9:Option Addr) (n9 c9:Nat) (p:Pl) (t y:Tm) (d:Int):Nat→(Nat→Value)→Value→World→(Nat→Prop)→Prop:=fun rix=>match rix with
 | 0=>fun _ v _ _=>v=chGV dd ff by_ cp cv L9 n9 c9
 | 1=>fun _ v _ _=>v=tmV p t
 | 2=>fun τ v w O=>TmOR S (bareG t) v w O
 | 3=>fun _ v _ _=>v=.int .i64 d
 | 4=>fun τ v w O=>TmO S y v w O
 | 5=>fun τ v w O=>∃ p,(.pointer (some ⟨Rb,0,none⟩):Value)=.pointer (some ⟨p,0,none⟩)∧TmBox p S y w O
 | _=>fun _ _ _ _=>True
def rg2l_C:Nat→List Nat:=fun rix=>match rix with
 | 4=>[2]
 | 5=>[4]
 | _=>[]
theorem rg2l_nw2:nwB rg2l_ops.toArray 2=true:=by kernel_rfl
theorem rg2l_nw3:nwB rg2l_ops.toArray 3=true:=by kernel_rfl
theorem rg2l_nw4:nwB rg2l_ops.toArray 4=true:=by kernel_rfl
theorem rg2l_nw6:nwB rg2l_ops.toArray 6=true:=by kernel_rfl
set_option maxRecDepth 100000 in
set_option maxHeartbeats 8000000 in
theorem rg2l_obs (w0:World) (Cb Tb Rb:Nat) (S:Nat→Prop) (dd ff by_:Int) (cp:Pl) (cv:Tm) (L9:Option Addr) (n9 c9:Nat) (p:Pl) (t y:Tm) (d:Int) (hC:w0.heap[Cb]?=some (.cells (chG dd ff by_ cp cv L9 n9 c9) 71 (0,0))) (hT:w0.heap[Tb]?=some (tmO p t)) (hR:w0.heap[Rb]?=some (outK 0 (.slice none 0 0))) (hCR:Cb≠Rb) (hTR:Tb≠Rb) (hS:∀ k,S k→k<w0.heap.size∧k≠Rb) (hin:TmS w0 S p t) (g1:Nat) (hg1:g1≤w0.heap.size∧g1≤Rb) (hlf:∀ (O':Nat→Prop) (q:Pl) (w:World),(∀ k,O' k→g1≤k∧k<w.heap.size)→(∀ k,S k→k<w.heap.size)→Chg (fun k=>k=Rb) w0 w→TmS w (fun k=>S k∨O' k) q (bareG t)→LsF w S O' q.B (bareG t).ls→Calls Try.prog 98 #[chGV dd ff by_ cp cv L9 n9 c9,tmV q (bareG t),.int .i64 d] w (fun e w'=>∃ q',e=.returned (tmV q' y)∧TmS w' (fun k=>S k∨O' k∨w.heap.size≤k) q' y∧Chg O' w w')) (Q:Exit→Act→World→Prop) (a0:Act) (hi2:a0.tmps.getD 2 undef=.int .i64 d) (hi3:a0.tmps.getD 3 undef=.pointer (some ⟨Cb,0,none⟩)) (hi4:a0.tmps.getD 4 undef=.pointer (some ⟨Tb,0,none⟩)) (hi6:a0.tmps.getD 6 undef=.pointer (some ⟨Rb,0,none⟩)) :
  ObsE Try.prog rg2l_ops.toArray Q (est2 5 0 (fun k=>k=Rb) (fun _=>False)) rg2l_C (rg2l_F w0 Cb Tb Rb S dd ff by_ cp cv L9 n9 c9 p t y d) a0 w0 rg2l_ops.toArray.toList 0:=by
 have nw2:=rg2l_nw2
 have nw3:=rg2l_nw3
 have nw4:=rg2l_nw4
 have nw6:=rg2l_nw6
 refine ⟨?_,?_,?_,?_,?_,?_,trivial⟩
 ·refine ⟨⟨fun τ=>stableE_det _,leans_not⟩,?_⟩
  intro a w O hk
  have e3:a.eval (.tmp 3)=.pointer (some ⟨Cb,0,none⟩):=(hk.init 3 (initialB_of_nw nw3)).trans hi3
  have x3:=(hk.fix Cb (est2_fix (blk_lt hC) (fun e=>by have e:Cb=Rb:=e;omega) (fun e=>e.elim))).trans hC
  exact obE_loadRow rfl e3 x3 Try.underlying71 rfl (by kernel_rfl) (wanted_none rfl) rfl
 ·refine ⟨⟨fun τ=>stableE_det _,leans_not⟩,?_⟩
  intro a w O hk
  have e4:a.eval (.tmp 4)=.pointer (some ⟨Tb,0,none⟩):=(hk.init 4 (initialB_of_nw nw4)).trans hi4
  have x4:=(hk.fix Tb (est2_fix (blk_lt hT) (fun e=>by have e:Tb=Rb:=e;omega) (fun e=>e.elim))).trans hT
  exact obE_loadRow rfl e4 x4 Try.underlying28 rfl (by kernel_rfl) (wanted_none rfl) rfl
 ·refine ⟨⟨fun τ=>stableE_tmr (fun k hk'=>est2_fix (hS k hk').1 (fun e=>(hS k hk').2 e) (fun e=>e.elim)),leans_not⟩,?_⟩
  intro a w O hk
  have e19:a.eval (.tmp 19)=tmV p t:=hk.fact 1 _ 19 rfl rfl rfl rfl
  have y4:=hin.same (w':=w) (fun k hk' _=>hk.fix k ((fun k hk'=>est2_fix (hS k hk').1 (fun e=>(hS k hk').2 e) (fun e=>e.elim)) k hk'))
  exact obE_callNew #[tmV p t] rfl rfl rfl rfl (by simp only [List.map_cons,List.map_nil];rw [e19]) (wanted_none rfl) ((bareR_calls S w.heap.size (fun k h=>Nat.lt_of_lt_of_le (hS k h).1 hk.world.size) t p w (Nat.le_refl _) y4).mono fun e w' ⟨q9,h1,h2,h4,h3⟩=>⟨_,h1,⟨q9,rfl,h2.mono fun k h hz=>h.imp id fun h=>⟨h,hz⟩,h4.same (fun k h hz=>⟨⟨h,hz⟩,rfl⟩) fun _ _ _=>rfl⟩,h3⟩)
 ·refine ⟨⟨fun τ=>stableE_det _,leans_not⟩,?_⟩
  intro a w O hk
  have e2:a.eval (.tmp 2)=.int .i64 d:=(hk.init 2 (initialB_of_nw nw2)).trans hi2
  exact toE (ob_move rfl e2 (wanted_none rfl) rfl)
 ·refine ⟨⟨fun τ=>stableE_tm (fun k hk'=>est2_fix (hS k hk').1 (fun e=>(hS k hk').2 e) (fun e=>e.elim)),leans_not⟩,?_⟩
  intro a w O hk
  have e18:a.eval (.tmp 18)=chGV dd ff by_ cp cv L9 n9 c9:=hk.fact 0 _ 18 rfl rfl rfl rfl
  have f20:=hk.fact 2 _ 20 rfl rfl rfl rfl
  have g20:=hk.owns 2 rfl rfl
  have e21:a.eval (.tmp 21)=.int .i64 d:=hk.fact 3 _ 21 rfl rfl rfl rfl
  obtain ⟨q20,z20,h20,l20⟩:=f20
  replace z20:a.eval (.tmp 20)=_:=z20
  exact obE_call #[chGV dd ff by_ cp cv L9 n9 c9,tmV q20 (bareG t),.int .i64 d] rfl rfl rfl rfl (by simp only [List.map_cons,List.map_nil];rw [e18,z20,e21]) (wanted_none rfl) ((hlf (fun k=>O 2 k) q20 w (fun k h=>⟨Nat.le_of_not_lt fun hlt=>(g20 k h).2 (est2_fix (Nat.lt_of_lt_of_le hlt hg1.1) (fun e=>by have e:k=Rb:=e;have:=hg1.2;omega) (fun e=>e.elim)),(g20 k h).1⟩) (fun k h=>Nat.lt_of_lt_of_le (hS k h).1 hk.world.size) (hk.world.mono fun k ⟨i,h⟩=>h.elim (fun h=>h.2) fun h=>h.2.elim) h20 l20).mono fun e w' ⟨q9,h1,h2,h3⟩=>⟨_,fun k=>k<w'.heap.size∧(O 2 k∨w.heap.size≤k),h1,⟨q9,rfl,h2.mono fun k h hz=>h.imp id fun h=>⟨hz,h⟩⟩,h3.mono fun k h=>.inl ⟨2,by simp [rg2l_C],h⟩,fun k h=>h.2.elim (fun h'=>.inl (.inl ⟨2,by simp [rg2l_C],h'⟩)) fun h'=>.inr ⟨h',h.1⟩⟩)
 ·refine ⟨⟨fun τ=>stableE_ex fun p v w w' O h hz hk=>⟨h.1,stableE_tmbox (fun k hk'=>est2_fix (hS k hk').1 (fun e=>(hS k hk').2 e) (fun e=>e.elim)) v w w' O h.2 hz hk⟩,leans_not⟩,?_⟩
  intro a w O hk
  have e6:a.eval (.tmp 6)=.pointer (some ⟨Rb,0,none⟩):=(hk.init 6 (initialB_of_nw nw6)).trans hi6
  have f22:=hk.fact 4 _ 22 rfl rfl rfl rfl
  have g22:=hk.owns 4 rfl rfl
  have x6:w.heap[Rb]?=some (tmO plz zeroT):=(hk.est 5 _ rfl (.inl rfl) Rb (.inl ⟨rfl,rfl⟩)).trans hR
  exact obE_tmPut (T:=S) rfl (wanted_none rfl) e6 x6 f22 (.inr (.inl ⟨rfl,rfl⟩)) (fun k h=>.inl ⟨4,by simp [rg2l_C],h⟩) (fun h=>(hS Rb h).2 rfl) (hk.away 5 4 _ rfl (.inl rfl) rfl rfl Rb (.inl ⟨rfl,rfl⟩)) rfl
set_option maxRecDepth 100000 in
set_option maxHeartbeats 8000000 in
theorem rg2l_region {Q:Exit→Act→World→Prop} {id:Nat} (w0:World) (Cb Tb Rb:Nat) (S:Nat→Prop) (dd ff by_:Int) (cp:Pl) (cv:Tm) (L9:Option Addr) (n9 c9:Nat) (p:Pl) (t y:Tm) (d:Int) {s0 s1 s5 s7 s8 s9 s10 s11 s12 s13 s14 s15 s16 s17 s18 s19 s20 s21 s22 s23 s24 s25 s26 s27 s28 s29 s30 s31 s32 s33 s34 s35 s36 s37 s38 s39 s40 s41 s42 s43 s44 s45 s46 s47 s48 s49 s50 s51 s52:Value} (hC:w0.heap[Cb]?=some (.cells (chG dd ff by_ cp cv L9 n9 c9) 71 (0,0))) (hT:w0.heap[Tb]?=some (tmO p t)) (hR:w0.heap[Rb]?=some (outK 0 (.slice none 0 0))) (hCR:Cb≠Rb) (hTR:Tb≠Rb) (hS:∀ k,S k→k<w0.heap.size∧k≠Rb) (hin:TmS w0 S p t) (g1:Nat) (hg1:g1≤w0.heap.size∧g1≤Rb) (hlf:∀ (O':Nat→Prop) (q:Pl) (w:World),(∀ k,O' k→g1≤k∧k<w.heap.size)→(∀ k,S k→k<w.heap.size)→Chg (fun k=>k=Rb) w0 w→TmS w (fun k=>S k∨O' k) q (bareG t)→LsF w S O' q.B (bareG t).ls→Calls Try.prog 98 #[chGV dd ff by_ cp cv L9 n9 c9,tmV q (bareG t),.int .i64 d] w (fun e w'=>∃ q',e=.returned (tmV q' y)∧TmS w' (fun k=>S k∨O' k∨w.heap.size≤k) q' y∧Chg O' w w'))
  (hend:∀ (w':World) (u20:Value) (u22:Value) (v5:Value) (O5:Nat→Prop),Chg (fun k=>(fun k=>k=Rb) k∨(fun _=>False) k) w0 w'→(∃ p,(.pointer (some ⟨Rb,0,none⟩):Value)=.pointer (some ⟨p,0,none⟩)∧TmBox p S y w' O5)→(∀ k,O5 k→k<w'.heap.size∧¬ Fix w0 (est2 5 0 (fun k=>k=Rb) (fun _=>False)) k)→Q .normal { tmps:=(s0 :: s1 :: (.int .i64 d) :: (.pointer (some ⟨Cb,0,none⟩)) :: (.pointer (some ⟨Tb,0,none⟩)) :: s5 :: (.pointer (some ⟨Rb,0,none⟩)) :: s7 :: s8 :: s9 :: s10 :: s11 :: s12 :: s13 :: s14 :: s15 :: s16 :: s17 :: (chGV dd ff by_ cp cv L9 n9 c9) :: (tmV p t) :: u20 :: (.int .i64 d) :: u22 :: s23 :: s24 :: s25 :: s26 :: s27 :: s28 :: s29 :: s30 :: s31 :: s32 :: s33 :: s34 :: s35 :: s36 :: s37 :: s38 :: s39 :: s40 :: s41 :: s42 :: s43 :: s44 :: s45 :: s46 :: s47 :: s48 :: s49 :: s50 :: s51 :: s52 :: []:List Value).toArray,defers:=[] } w') :
  (Code.region id rg2l_ops.toArray true).wp Try.prog Q { tmps:=(s0 :: s1 :: (.int .i64 d) :: (.pointer (some ⟨Cb,0,none⟩)) :: (.pointer (some ⟨Tb,0,none⟩)) :: s5 :: (.pointer (some ⟨Rb,0,none⟩)) :: s7 :: s8 :: s9 :: s10 :: s11 :: s12 :: s13 :: s14 :: s15 :: s16 :: s17 :: s18 :: s19 :: s20 :: s21 :: s22 :: s23 :: s24 :: s25 :: s26 :: s27 :: s28 :: s29 :: s30 :: s31 :: s32 :: s33 :: s34 :: s35 :: s36 :: s37 :: s38 :: s39 :: s40 :: s41 :: s42 :: s43 :: s44 :: s45 :: s46 :: s47 :: s48 :: s49 :: s50 :: s51 :: s52 :: []:List Value).toArray,defers:=[] } w0:=by
 refine wp_region_est (by kernel_rfl) (est2 5 0 (fun k=>k=Rb) (fun _=>False)) rg2l_C (rg2l_F w0 Cb Tb Rb S dd ff by_ cp cv L9 n9 c9 p t y d) (est2_dis (fun _ _ h=>h)) (est2_range (fun k hk=>hk ▸ blk_lt hR) (fun _ h=>h.elim)) (by rfl) (by kernel_rfl) (rg2l_obs w0.drew Cb Tb Rb S dd ff by_ cp cv L9 n9 c9 p t y d hC hT hR hCR hTR hS (TmS.same hin (fun _ _ _=>rfl)) g1 hg1 (fun O' q w h1 h2 h3=>hlf O' q w h1 h2 (chg_undrew h3)) _ _ rfl rfl rfl rfl) ?_
 intro a w' O hd hs hb hf hf2 ha hsame
 have hl:=slots_eq (ops:=rg2l_ops.toArray) [(18,chGV dd ff by_ cp cv L9 n9 c9),(19,tmV p t),(20,a.tmps.getD 20 undef),(21,.int .i64 d),(22,a.tmps.getD 22 undef)] (show a.tmps.size=53 from hs) (fun i h=>hsame i h) ⟨(hf 0 _ 18 rfl rfl (by decide)).1,(hf 1 _ 19 rfl rfl (by decide)).1,rfl,(hf 3 _ 21 rfl rfl (by decide)).1,rfl,trivial⟩ (by kernel_rfl)
 obtain ⟨tmps,defers⟩:=a
 obtain rfl:defers=[]:=hd
 have hl':tmps=_:=hl
 rw [hl']
 obtain ⟨⟨v5,hv5⟩,ho5⟩:=hf2 5 _ rfl rfl (by decide)
 have hb':=est2_chg hb
 refine Eq.mp ?_ (hend w' (tmps.getD 20 undef) (tmps.getD 22 undef) v5 (O 5) ⟨hb'.os,hb'.tape,hb'.output,hb'.size,hb'.block⟩ hv5 ho5)
 kernel_rfl

section
variable (dd ff by_:Int) (cp:Pl) (cv:Tm) (L9:Option Addr) (n9 c9:Nat) (RL:Tm→Int→Tm) (g1:Nat) (S:Nat→Prop) (Rep:World→Prop)
set_option maxRecDepth 100000 in
set_option maxHeartbeats 8000000 in
theorem rwgl_leaf (hS:∀ k,S k→k<g1) (hRep:∀ W W',Rep W→(∀ k,k<g1→W'.heap[k]?=W.heap[k]?)→Rep W')
  (t:Tm) (d:Int) (hlf2:∀ (O':Nat→Prop) (q:Pl) (w:World),g1≤w.heap.size→Rep w→(∀ k,O' k→g1≤k∧k<w.heap.size)→(∀ k,S k→k<w.heap.size)→TmS w (fun k=>S k∨O' k) q (bareG t)→LsF w S O' q.B (bareG t).ls→Calls Try.prog 98 #[chGV dd ff by_ cp cv L9 n9 c9,tmV q (bareG t),.int .i64 d] w (fun e w'=>∃ q',e=.returned (tmV q' (RL t d))∧TmS w' (fun k=>S k∨O' k∨w.heap.size≤k) q' (RL t d)∧Chg O' w w'))
  (h0:nK t=0) (p:Pl) (w:World) (hg1:g1≤w.heap.size) (hR:Rep w) (hin:TmS w S p t) :
  Calls Try.prog 66 #[chGV dd ff by_ cp cv L9 n9 c9,tmV p t,.int .i64 d] w (TmGot w S (rebP RL t d)):=by
 have HSS:=Ak hS
 have HE:=Ak (show rebP RL t d=RL t d from reb_leaf (decide_eq_true h0))
 have HIN:=Ak hin
 have HRW:=Ak hR
 have HRP:=Ak hRep
 have HLF2:=Ak hlf2
 have hlen:=hin.len
 obtain ⟨W,hW⟩:∃ W,W=rwgW w dd ff by_ cp cv L9 n9 c9 p t:=⟨_,rfl⟩
 obtain ⟨hb,hc,hx,hr,hz⟩:=rwg_box w dd ff by_ cp cv L9 n9 c9 p t
 rw [← hW] at hb hc hx hr hz
 have HB:=Ak hb
 have HC:=Ak hc
 have HX:=Ak hx
 have HR:=Ak hr
 have HZ:=Ak hz
 obtain ⟨ar,har⟩:∃ x,arZ t.kind=x:=⟨_,rfl⟩
 have HAC:=Ak (show ∀ w,Calls Try.prog 39 #[.int .i64 t.kind] w fun e w'=>e=.returned (.int .i64 ar)∧w'=w from fun w=>by rw [← har];exact refkids_calls _ _)
 clear hb hc hx hr hz hin hR hRep hlf2 hS
 unfold rwgW at hW
 cases hlf:leafR t with
 | true =>
  have HLF:=Ak hlf
  clear hlf h0
  unfold chGV tmV
  unfold tmO at hW
  go_enter Try.func66,Try.ntmps66
  go_upto_region 1 with (fail)
  rw [← hW]
  clear hW
  go_upto_region 2 with (first
   | (refine wpList_load_row rfl 28 _ rfl (w.heap.size+1) rfl 28 _ (0,0) _ HX.out Try.underlying28 rfl (by kernel_rfl) ?_)
   | (go_at_call 77;go_must (refine (refleaf_calls t p W (by omega)).mono ?_;rintro e w2 ⟨rfl,hb⟩;rw [HLF.out];have HBW:=Ak hb;have HB2:=Ak (below_then HB.out HB.out.size hb);have HC2:=Ak ((hb.block _ (blk_lt HC.out)).trans HC.out);have HX2:=Ak ((hb.block _ (blk_lt HX.out)).trans HX.out);have HR2:=Ak ((hb.block _ (blk_lt HR.out)).trans HR.out);clear hb)))
  have hzW:=HB2.out.size
  have hzl:=blk_lt HR2.out
  refine rg2l_region w2 (w.heap.size) (w.heap.size+1) (w.heap.size+1+1) S dd ff by_ cp cv L9 n9 c9 p t (rebP RL t d) d HC2.out HX2.out HR2.out (by omega) (by omega) (fun k h=>by have:=HSS.out k h;omega) (TmS.stay HIN.out HSS.out (HB2.out.mono hg1)) g1 ⟨by omega,by omega⟩ (fun O' q w5 h1 h2 h5 h6 h7=>by rw [HE.out];exact HLF2.out O' q w5 (Nat.le_trans hg1 (Nat.le_trans HB2.out.size h5.size)) (HRP.out _ _ HRW.out (fun k hk=>(h5.block k (by omega) (by omega)).trans (HB2.out.block k (by omega)))) h1 h2 h6 h7) ?_
  intros
  rename_i hC hF hO5
  obtain ⟨pp,hpe,q9,hq1,hq2,hq3⟩:=hF
  obtain rfl:pp=w.heap.size+1+1:=by injection hpe with hpe;injection hpe with hpe;injection hpe with hpe;exact hpe.symm
  obtain ⟨y,hy⟩:∃ y,y=rebP RL t d:=⟨_,rfl⟩
  rw [← hy] at hq1 hq3
  have HY:=Ak hy
  have HQ1:=Ak hq1
  have HQ3:=Ak hq3
  have HO5:=Ak hO5
  have HCC:=Ak hC
  clear hq1 hq3 hO5 hC hpe hy hq2
  go_wp2
  refine bodyPost_ret (results_c rfl _ _ (w.heap.size+1+1) 28 #[.int .i64 y.kind,.int .i64 y.num,.string y.name,.int .i64 y.lv.kind,.int .i64 y.lv.num,.slice q9.A y.lv.kids.length q9.c,.slice q9.B y.ls.length q9.d,.slice q9.K y.kids.length q9.e] (0,0) _ rfl HQ1.out Try.underlying28 rfl (by kernel_rfl)) rfl ?_
  rw [← HY.out]
  refine ⟨q9,rfl,HQ3.out.mono fun k hk hz=>?_,Chg.trans_below HB2.out HCC.out (fun k e=>by rcases e with e | e;(have e:k=w.heap.size+1+1:=e;omega);exact e.elim) HB2.out.size⟩
  rcases hk with hk | hk
  ·exact .inl hk
  ·rcases Nat.lt_or_ge k w2.heap.size with h | h
   ·exact absurd (est2_fix h (fun e=>hk.2 e) (fun e=>e.elim)) (HO5.out k hk.1).2
   ·exact .inr (by omega)
 | false =>
  have HLF:=Ak hlf
  have ha0:ar=0:=by have:=nK_eq hlf;rw [h0,har] at this;omega
  subst ha0
  clear hlf h0
  unfold chGV tmV
  unfold tmO at hW
  go_enter Try.func66,Try.ntmps66
  go_upto_region 1 with (fail)
  rw [← hW]
  clear hW
  go_upto_region 2 with (first
   | (refine wpList_load_row rfl 28 _ rfl (w.heap.size+1) rfl 28 _ (0,0) _ HX.out Try.underlying28 rfl (by kernel_rfl) ?_)
   | (go_at_call 77;go_must (refine (refleaf_calls t p W (by omega)).mono ?_;rintro e w2 ⟨rfl,hb⟩;rw [HLF.out];have HBW:=Ak hb;have HB2:=Ak (below_then HB.out HB.out.size hb);have HC2:=Ak ((hb.block _ (blk_lt HC.out)).trans HC.out);have HX2:=Ak ((hb.block _ (blk_lt HX.out)).trans HX.out);have HR2:=Ak ((hb.block _ (blk_lt HR.out)).trans HR.out);have c0:=(row8 HX2.out).1;clear hb))
   | (go_at_call 39;go_must (refine (HAC.out _).mono ?_;rintro e w3 ⟨rfl,h3⟩;have h3:=h3.symm;subst h3)))
  have hzW:=HB2.out.size
  have hzl:=blk_lt HR2.out
  refine rg2l_region w2 (w.heap.size) (w.heap.size+1) (w.heap.size+1+1) S dd ff by_ cp cv L9 n9 c9 p t (rebP RL t d) d HC2.out HX2.out HR2.out (by omega) (by omega) (fun k h=>by have:=HSS.out k h;omega) (TmS.stay HIN.out HSS.out (HB2.out.mono hg1)) g1 ⟨by omega,by omega⟩ (fun O' q w5 h1 h2 h5 h6 h7=>by rw [HE.out];exact HLF2.out O' q w5 (Nat.le_trans hg1 (Nat.le_trans HB2.out.size h5.size)) (HRP.out _ _ HRW.out (fun k hk=>(h5.block k (by omega) (by omega)).trans (HB2.out.block k (by omega)))) h1 h2 h6 h7) ?_
  intros
  rename_i hC hF hO5
  obtain ⟨pp,hpe,q9,hq1,hq2,hq3⟩:=hF
  obtain rfl:pp=w.heap.size+1+1:=by injection hpe with hpe;injection hpe with hpe;injection hpe with hpe;exact hpe.symm
  obtain ⟨y,hy⟩:∃ y,y=rebP RL t d:=⟨_,rfl⟩
  rw [← hy] at hq1 hq3
  have HY:=Ak hy
  have HQ1:=Ak hq1
  have HQ3:=Ak hq3
  have HO5:=Ak hO5
  have HCC:=Ak hC
  clear hq1 hq3 hO5 hC hpe hy hq2
  go_wp2
  refine bodyPost_ret (results_c rfl _ _ (w.heap.size+1+1) 28 #[.int .i64 y.kind,.int .i64 y.num,.string y.name,.int .i64 y.lv.kind,.int .i64 y.lv.num,.slice q9.A y.lv.kids.length q9.c,.slice q9.B y.ls.length q9.d,.slice q9.K y.kids.length q9.e] (0,0) _ rfl HQ1.out Try.underlying28 rfl (by kernel_rfl)) rfl ?_
  rw [← HY.out]
  refine ⟨q9,rfl,HQ3.out.mono fun k hk hz=>?_,Chg.trans_below HB2.out HCC.out (fun k e=>by rcases e with e | e;(have e:k=w.heap.size+1+1:=e;omega);exact e.elim) HB2.out.size⟩
  rcases hk with hk | hk
  ·exact .inl hk
  ·rcases Nat.lt_or_ge k w2.heap.size with h | h
   ·exact absurd (est2_fix h (fun e=>hk.2 e) (fun e=>e.elim)) (HO5.out k hk.1).2
   ·exact .inr (by omega)
set_option maxRecDepth 100000 in
set_option maxHeartbeats 8000000 in
theorem rwgl_calls (hS:∀ k,S k→k<g1) (hRep:∀ W W',Rep W→(∀ k,k<g1→W'.heap[k]?=W.heap[k]?)→Rep W')
  (hleaf:∀ (t:Tm) (d:Int) (p:Pl) (w:World),nK t=0→0≤d→d≤1000000→g1≤w.heap.size→Rep w→TmS w S p t→Calls Try.prog 66 #[chGV dd ff by_ cp cv L9 n9 c9,tmV p t,.int .i64 d] w (TmGot w S (rebP RL t d)))
  (N:Nat):∀ (t:Tm),SizeOf.sizeOf t<N→∀ (p:Pl) (d:Int) (w:World),0≤d→d+depthT t≤1000000→g1≤w.heap.size→Rep w→TmS w S p t →
  Calls Try.prog 66 #[chGV dd ff by_ cp cv L9 n9 c9,tmV p t,.int .i64 d] w (TmGot w S (rebP RL t d)):=by
 induction N with
 | zero=>intro t h;omega
 | succ N ih =>
  intro t hN p d w hd0 hd1 hg1 hR hin
  have hdp:=depth_pos t
  by_cases h0:nK t=0
  ·exact hleaf t d p w h0 hd0 (by omega) hg1 hR hin
  have hlt0:leafT t=false:=decide_eq_false h0
  obtain ⟨hk1,hk2,hk7⟩:=kind_node hlt0
  have HLF:=Ak (leafR_node hlt0)
  have HBE:=Ak (show bareT t=.mk t.kind 0 noName lv0 [] [] by unfold bareT;exact congrArg (fun z=>Tm.mk t.kind z noName lv0 [] []) (if_neg (fun h=>hk1 h.2)))
  have HE:=Ak (show rebP RL t d=.mk t.kind 0 noName (.mk 0 0 []) [] (rebKids RL t d (List.finRange (nK t))) from reb_node hlt0)
  have IH:=Ak ih
  have HNN:=Ak hN
  have HD1:=Ak hd1
  have HSS:=Ak hS
  have HIN:=Ak hin
  have HRW:=Ak hR
  have HRP:=Ak hRep
  have hlen:=hin.len
  obtain ⟨ar,har⟩:∃ x,arZ t.kind=x:=⟨_,rfl⟩
  have HAC:=Ak (show ∀ w,Calls Try.prog 39 #[.int .i64 t.kind] w fun e w'=>e=.returned (.int .i64 ar)∧w'=w from fun w=>by rw [← har];exact refkids_calls _ _)
  obtain ⟨ha1,ha2,ha3⟩:=nK_eq HLF.out
  rw [har] at ha1 ha2 ha3
  obtain ⟨m,hm⟩:∃ x,nK t=x:=⟨_,rfl⟩
  rw [hm] at ha1 h0
  subst ha1
  have HNK:=Ak hm
  have hne:((m:Int) == 0)=false:=by simp;omega
  have hm3:m≤3:=by rw [← hm];exact nK_le3 t
  have hmL:m≤t.kids.length:=by omega
  have hme:m≤p.e:=by omega
  have hmeI:(m:Int)≤p.e:=by omega
  have HBR:=Ak (show ∀ w,Calls Try.prog 99 #[tmV p t] w fun e w'=>e=.returned (.agg #[.int .i64 t.kind,.int .i64 0,.string ⟨#[]⟩,.int .i64 0,.int .i64 0,.slice none 0 0,.slice none 0 0,.slice none 0 0])∧Below w.heap.size w w' from fun w=>(bare_calls t p w hk2 hk7 (by omega) hin.fit.1).mono (by rintro e w' ⟨h,hb⟩;rw [HBE.out] at h;exact ⟨h,hb⟩))
  clear ih hN hd1 hS hin hR hRep hleaf har ha2 ha3 hm hk1 hk2 hk7 hlt0 hdp
  obtain ⟨W,hW⟩:∃ W,W=rwgW w dd ff by_ cp cv L9 n9 c9 p t:=⟨_,rfl⟩
  obtain ⟨hb,hc,hx,hr,hz⟩:=rwg_box w dd ff by_ cp cv L9 n9 c9 p t
  rw [← hW] at hb hc hx hr hz
  have HB:=Ak hb
  have HC:=Ak hc
  have HX:=Ak hx
  have HR:=Ak hr
  have HZ:=Ak hz
  clear hb hc hx hr hz
  unfold rwgW at hW
  unfold chGV tmV
  unfold tmO at hW
  go_enter Try.func66,Try.ntmps66
  go_upto_region 1 with (fail)
  rw [← hW]
  clear hW
  go_upto_region 3 with (first
   | (refine wpList_load_row rfl 28 _ rfl (w.heap.size+1) rfl 28 _ (0,0) _ HX.out Try.underlying28 rfl (by kernel_rfl) ?_)
   | (go_at_call 77;go_must (refine (refleaf_calls t p W (by omega)).mono ?_;rintro e w2 ⟨rfl,hb⟩;rw [HLF.out];have HBW:=Ak hb;have HB2:=Ak (below_then HB.out HB.out.size hb);have HC2:=Ak ((hb.block _ (blk_lt HC.out)).trans HC.out);have HX2:=Ak ((hb.block _ (blk_lt HX.out)).trans HX.out);have HR2:=Ak ((hb.block _ (blk_lt HR.out)).trans HR.out);have c0:=(row8 HX2.out).1;clear hb))
   | (go_at_call 39;go_must (refine (HAC.out _).mono ?_;rintro e w3 ⟨rfl,h3⟩;have h3:=h3.symm;subst h3)))
  go_upto_region 4 with (first
   | (refine wpList_load_row rfl 28 _ rfl (w.heap.size+1) rfl 28 _ (0,0) _ HX2.out Try.underlying28 rfl (by kernel_rfl) ?_)
   | (go_at_call 99;go_must (refine (HBR.out w2).mono ?_;rintro e w3 ⟨rfl,hb⟩;have HB3:=Ak (below_then HB2.out HB2.out.size hb);have HC3:=Ak ((hb.block _ (blk_lt HC2.out)).trans HC2.out);have HX3:=Ak ((hb.block _ (blk_lt HX2.out)).trans HX2.out);have HR3:=Ak ((hb.block _ (blk_lt HR2.out)).trans HR2.out);clear hb)))
  obtain ⟨W4,hW4⟩:∃ W4,W4=w3.alloc (outK t.kind (.slice none 0 0)):=⟨_,rfl⟩
  have hb4:Below w3.heap.size w3 W4:=by rw [hW4];exact below_alloc (Below.refl _ _) _
  have HO4:=Ak (show W4.heap[w3.heap.size]?=some (outK t.kind (.slice none 0 0)) by rw [hW4];exact blk_new _ _)
  have hz4:W4.heap.size=w3.heap.size+1:=by rw [hW4];simp
  have HB4:=Ak (below_then HB3.out HB3.out.size hb4)
  have HC4:=Ak ((hb4.block _ (blk_lt HC3.out)).trans HC3.out)
  have HX4:=Ak ((hb4.block _ (blk_lt HX3.out)).trans HX3.out)
  have HR4:=Ak ((hb4.block _ (blk_lt HR3.out)).trans HR3.out)
  unfold outK at hW4
  rw [← hW4]
  clear hW4 hb4 c0 h3
  have c7:=(row8 HX4.out).2.2.2.2.2.2.2
  have c0:=(row8 HX4.out).1
  go_quiet ((go_at_call 39;exact Calls.quiet_of_same (HAC.out _)))
  have HOB4:W4.heap.size=w3.heap.size+1:=hz4
  obtain ⟨Ob,hOb⟩:∃ x,w3.heap.size=x:=⟨_,rfl⟩
  rw [hOb] at HO4 HOB4 ⊢
  have HOZ:=Ak HOB4
  have hOw:w.heap.size+1+1<Ob:=by have:=blk_lt HR3.out;omega
  obtain ⟨qq,hq⟩:=HIN.out.kid
  have HQ:=Ak hq
  clear hq c0 c7 hz4 HOB4 hOb
  go_wp2
  go_loopw [32] (fun i wr=>∃ (k:Nat) (V:Value),i=.int .i64 k∧k≤m∧Aside0 (wr.heap[Ob]?=some (outK t.kind V))∧Aside0 (KidsT wr S (Ob+1) V (rebKids RL t d ((List.finRange (nK t)).take k)))∧Aside0 (Chg (fun k=>k=Ob) W4 wr)) (fun i _=>m - (intOf i).toNat)
  case atStart =>
   have hbn:Below W4.heap.size W4 (W4.drewN nq):=below_drewN (Below.refl _ _) _
   exact ⟨0,.slice none 0 0,rfl,Nat.zero_le _,⟨(hbn.block _ (blk_lt HO4.out)).trans HO4.out⟩,⟨KidsT.nil _ _ _⟩,⟨Chg.of_below hbn⟩⟩
  case round =>
   obtain ⟨k,V,rfl,hk,HOR,HKR,HGR⟩:=hrel
   by_cases hlt:k<m
   ·have hkn:k<nK t:=by rw [HNK.out];exact hlt
    have hx:=kidF_get t ⟨k,hkn⟩
    have HTK:=Ak (take_fin hkn)
    obtain ⟨x,hxe⟩:∃ x,kidF t ⟨k,hkn⟩=x:=⟨_,rfl⟩
    have HDK:=Ak (depth_kid t ⟨k,hkn⟩)
    have HXL:=Ak (kidF_lt t ⟨k,hkn⟩)
    rw [hxe] at hx HDK HXL
    have HXE:=Ak hxe
    obtain ⟨⟨bk,o,hpK,hSb,hcells⟩,hxin⟩:=HQ.out k x hx
    have HSB:=Ak hSb
    have hkeep:∀ j,j<g1→wr.heap[j]?=w.heap[j]?:=fun j hj=>(HGR.out.block j (by have:=HB4.out.size;omega) (by omega)).trans (HB4.out.block j (by omega))
    have HKEEP:=Ak hkeep
    have hbk:∀ j v,(tmC (qq k) x)[j]?=some v→wr.cell? ⟨bk,o+k * 8+j,none⟩=some v:=fun j v hv=>(cell_same (hkeep bk (HSS.out _ hSb))).trans (hcells j v hv)
    have d0:=hbk 0 _ rfl
    have d1:=hbk 1 _ rfl
    have d2:=hbk 2 _ rfl
    have d3:=hbk 3 _ rfl
    have d4:=hbk 4 _ rfl
    have d5:=hbk 5 _ rfl
    have d6:=hbk 6 _ rfl
    have d7:=hbk 7 _ rfl
    rw [Nat.add_zero] at d0
    have HXIN:=Ak (show TmS wr S (qq k) x from TmS.same hxin fun j hj _=>hkeep j (HSS.out _ hj))
    rw [hpK]
    clear hcells hx hxin hbk hpK hxe hkeep hSb
    go_upto_region 7 with (fail)
    obtain ⟨W5,hW5⟩:∃ W5,W5=wr.alloc (tmO (qq k) x):=⟨_,rfl⟩
    have hb5:Below wr.heap.size wr W5:=by rw [hW5];exact below_alloc (Below.refl _ _) _
    have hX5:W5.heap[wr.heap.size]?=some (tmO (qq k) x):=by rw [hW5];exact blk_new _ _
    have hzr:=HGR.out.size
    have hz0:=HOZ.out
    have hO5:W5.heap[Ob]?=some (outK t.kind V):=(hb5.block _ (blk_lt HOR.out)).trans HOR.out
    have hC5:=(hb5.block _ (by omega)).trans ((HGR.out.block _ (by omega) (by omega)).trans HC4.out)
    have hT5:=(hb5.block _ (by omega)).trans ((HGR.out.block _ (by omega) (by omega)).trans HX4.out)
    have hz5:=hb5.size
    unfold tmO at hW5
    rw [← hW5]
    clear hW5
    have HK5:=HKR.out.later hb5
    obtain ⟨cells,qz,hown,hkids⟩:=HKR.out
    obtain ⟨A9,c8,rfl⟩:=own_slice hown
    have hVB:(Value.slice A9 (rebKids RL t d ((List.finRange (nK t)).take k)).length c8).ownBlock≠some wr.heap.size:=fun e=>by have:=own_lt hown _ e;omega
    clear hown hkids
    obtain ⟨cells,qz,hown,hkids⟩:=HK5
    obtain ⟨L,hL⟩:∃ L,(rebKids RL t d ((List.finRange (nK t)).take k)).length=L:=⟨_,rfl⟩
    have hL2:L≤3:=by rw [← hL,rebKids_len,List.length_take];omega
    have HLE:=Ak hL
    rw [hL] at hVB hown hkids hO5
    clear hL
    have HKID:=Ak hkids
    have HOWN:=Ak hown
    have HB5:=Ak hb5
    clear hkids hown hb5
    have hlen1:t.kids.length≤9223372036854775807:=by omega
    have hmr:=moreZ_in t k
    have hxl:=HXL.out
    have hNN:=HNN.out
    have hDK:=HDK.out
    have hD1:=HD1.out
    refine rg7_region W5 S Ob wr.heap.size (w.heap.size) (w.heap.size+1) (Ob+1) L c8 k A9 cells t.kind dd ff by_ cp cv L9 n9 c9 p t (qq k) x (rebP RL x (d+moreZ t k)) d (moreZ t k) hO5 hX5 hC5 hT5 HOWN.out (by omega) (by omega) (by omega) hVB (by omega) (by omega) (by omega) rfl (by omega) (fun j hj=>by have:=HSS.out j hj;omega) (fun w5 h5 h6=>IH.out x (by omega) (qq k) (d+moreZ t k) w5 (by omega) (by omega) (by have:=h5.size;omega) (HRP.out _ _ HRW.out (fun j hj=>(h6 j (by omega) (fun e=>by have:=own_base HOWN.out j e;omega) (by omega)).trans ((HB5.out.block j (by omega)).trans (HKEEP.out j hj)))) (HXIN.out.same fun j hj _=>by
     have hj:=HSS.out _ hj
     exact (h6 j (by omega) (fun e=>by have:=own_base HOWN.out j e;omega) (by omega)).trans (HB5.out.block j (by omega)))) ?_
    intro w6 u47 u48 u49 O12 v14 O14 hch h12 hO12 h14 hO14 hap
    have hfin:=reb_round (g0:=g1) HLE.out HKID.out HOWN.out hch h12 hO12 (fun h=>hap _ h h14.2) (by omega) (by omega) (by omega) HSS.out
    have hsn:=rebKids_snoc RL t d ((List.finRange (nK t)).take k) ⟨k,hkn⟩
    rw [HXE.out,← HTK.out] at hsn
    rw [← hsn] at hfin
    have HF6:=Ak hfin
    have HO6:=Ak h14.1
    have HG6:=Ak (show Chg (fun k=>k=Ob) W4 w6 from ⟨hch.os.trans (HB5.out.os.trans HGR.out.os),hch.tape.trans (HB5.out.tape.trans HGR.out.tape),hch.output.trans (HB5.out.output.trans HGR.out.output),Nat.le_trans HGR.out.size (Nat.le_trans HB5.out.size hch.size),fun j hj hn=>(hch.block j (by omega) (fun e=>e.elim (fun e=>by have:=own_base HOWN.out j e;omega) hn)).trans ((HB5.out.block j (by omega)).trans (HGR.out.block j hj hn))⟩)
    clear hch h12 hO12 h14 hO14 hap hfin hsn hX5 hO5 hC5 hT5 hVB
    go_wp2
    go_roundw
    case rel=>exact ⟨k+1,u49,by go_num,by omega,HO6,HF6,HG6⟩
    case measure=>(simp [intOf];try omega)
   ·obtain rfl:k=m:=by omega
    have hlt':decide ((k:Int)<k)=false:=by simp
    have HFU:=Ak (show (List.finRange (nK t)).take k=List.finRange (nK t) from List.take_of_length_le (by rw [List.length_finRange,HNK.out];exact Nat.le_refl _))
    have hKT:=HKR.out
    rw [HFU.out] at hKT
    obtain ⟨K9,e9,rfl,hterm⟩:=hKT.term
    have HTM:=Ak (hterm t.kind 0 noName ⟨by decide,by decide,by simp⟩)
    have hz0:=HOZ.out
    have hzr:=HGR.out.size
    have HR6:=Ak ((HGR.out.block _ (by omega) (by omega)).trans HR4.out)
    obtain ⟨m9,hm9⟩:∃ m,(rebKids RL t d (List.finRange (nK t))).length=m:=⟨_,rfl⟩
    have HM9:=Ak hm9
    have HOR2:=Ak (show wr.heap[Ob]?=some (outK t.kind (.slice K9 m9 e9)) by rw [← hm9];exact HOR.out)
    obtain ⟨r0,r1,r2,r3,r4,r5,r6,r7,f0,f1,f2,f3,f4,f5,f6,f7⟩:=row8c HR6.out
    have HK6E:=Ak (show rebP RL t d=.mk t.kind 0 noName (.mk 0 0 []) [] (rebKids RL t d (List.finRange (nK t))) from HE.out)
    clear hKT hterm hm9 HE
    go_wp2_with (refine wpList_load_row rfl 28 _ rfl Ob rfl 28 _ (0,0) _ HOR2.out Try.underlying28 rfl (by kernel_rfl) ?_)
    refine bodyPost_ret (results_c rfl _ _ (w.heap.size+1+1) 28 #[.int .i64 t.kind,.int .i64 0,.string ⟨#[]⟩,.int .i64 0,.int .i64 0,.slice none 0 0,.slice none 0 0,.slice K9 m9 e9] (0,0) _ rfl (set8 HR6.out) Try.underlying28 rfl (by kernel_rfl)) rfl ?_
    have hch:=chg_set8 wr (w.heap.size+1+1) (.int .i64 t.kind) (.int .i64 0) (.string ⟨#[]⟩) (.int .i64 0) (.int .i64 0) (.slice none 0 0) (.slice none 0 0) (.slice K9 m9 e9)
    rw [HK6E.out]
    have hzb:=HB4.out.size
    refine ⟨⟨none,0,none,0,K9,e9⟩,by unfold tmV;rw [← HM9.out];rfl,(HTM.out.same fun j hj hz=>hch.block j hz (by rcases hj with hj | hj;(have:=HSS.out j hj;omega);omega)).mono fun j hj _=>hj.imp id (fun h=>by omega),?_⟩
    exact Chg.trans_below (S:=fun j=>j=Ob∨j=w.heap.size+1+1) HB4.out (chg_trans (HGR.out.mono fun j h=>.inl h) (hch.mono fun j h=>.inr h)) (fun j h=>by omega) hzb
end
theorem bareG_fits (x:Tm):((bareG x).ls=[]∨(bareG x).lv=lv0)∧((bareG x).kind=2→(bareG x).ls=[])∧(bareG x).kids=[]:=by
 unfold bareG
 split
 ·exact ⟨.inl rfl,fun _=>rfl,rfl⟩
 ·split
  ·exact ⟨.inl rfl,fun _=>rfl,rfl⟩
  ·split
   ·exact ⟨.inl rfl,fun _=>rfl,rfl⟩
   ·split
    ·exact ⟨.inr rfl,fun h=>absurd (show (7:Int)=2 from h) (by decide),rfl⟩
    ·exact ⟨.inl rfl,fun _=>rfl,rfl⟩
theorem rwgLv_calls (S:Nat→Prop) (g0:Nat) (hS:∀ k,S k→k<g0) (t:Tm) (p:Pl) (L9:Option Addr) (n9 c9:Nat) (vs:List Lv) (w:World) (hn:n9=vs.length) (hdp:depthT t≤1000000) (hg0:g0≤w.heap.size) (hvs:LvIn w w.heap.size L9 c9 (.mk 0 0 vs)) (hin:TmS w S p t) :
  Calls Try.prog 66 #[chGV 2 0 0 plz zeroT L9 n9 c9,tmV p t,.int .i64 0] w (TmGot w S (rebP (fun x _=>lvG vs (bareG x)) t 0)):=by
 have hSw:∀ k,S k→k<w.heap.size:=fun k h=>Nat.lt_of_lt_of_le (hS k h) hg0
 have hRep:∀ W W':World,LvS W (fun k=>k<w.heap.size) L9 c9 (.mk 0 0 vs)→(∀ k,k<w.heap.size→W'.heap[k]?=W.heap[k]?)→LvS W' (fun k=>k<w.heap.size) L9 c9 (.mk 0 0 vs):=fun W W' h hs=>LvS.same h fun k hk _=>hs k hk
 refine rwgl_calls 2 0 0 plz zeroT L9 n9 c9 (fun x _=>lvG vs (bareG x)) w.heap.size S (fun W=>LvS W (fun k=>k<w.heap.size) L9 c9 (.mk 0 0 vs)) hSw hRep (fun t d p w2 h0 hd0 hd1 hg hR hi=>?_) _ t (Nat.lt_succ_self _) p 0 w (Int.le_refl _) (by omega) (Nat.le_refl _) hvs hin
 refine rwgl_leaf 2 0 0 plz zeroT L9 n9 c9 (fun x _=>lvG vs (bareG x)) w.heap.size S (fun W=>LvS W (fun k=>k<w.heap.size) L9 c9 (.mk 0 0 vs)) hSw hRep t d (fun O' q w3 hg3 hR3 hO hS3 hq hf=>?_) h0 p w2 hg hR hi
 obtain ⟨h1,h2,h3⟩:=bareG_fits t
 exact leafLv_calls vs L9 n9 c9 0 0 d plz zeroT w.heap.size S O' (bareG t) q w3 hn h1 h2 h3 hg3 hS3 hO hR3 hq hf

end Go.Proofs.Ytdboloabpjmgaaa

namespace Go.Proofs.Ytdboloabpjmgaaa
open Go.RowKit Go.Proofs.YtdboloabpjmgaaaW.PrintWords Go.RegionInvYtdboloabpjmgaaa Go.RegionEYtdboloabpjmgaaa

theorem instv_calls (S:Nat→Prop) (A:Option Addr) (c:Nat) (l:Lv) (Av:Option Addr) (nv cv:Nat) (vs:List Lv) (w:World) (hin:LvIn w w.heap.size A c l) (hv:LvIn w w.heap.size Av cv (.mk 0 0 vs)) (hn:nv=vs.length) (hn50:nv≤1000) :
  Calls Try.prog 88 #[lvV A c l,.slice Av nv cv] w (LvGot w S (instL vs l)):=
 (inst_calls A c l Av nv cv vs w hin hv hn hn50).mono fun e w' ⟨A2,c2,he,hl,hb⟩=>⟨A2,c2,he,hl.mono fun k h _=>h.elim (fun h=>h.elim) .inr,hb⟩
theorem gl_cell {w w':World} {gl:Nat} {v:Value} {t:TypeId} (h:w.heap[gl]?=some (.cells #[v] t (0,0))) (hb:Below w.heap.size w w'):w'.cell? ⟨gl,0,none⟩=some v:=by
 rw [cell_of_row _ _ _ _ _ _ (blk_below h hb)];rfl
set_option maxRecDepth 4000 in
set_option maxHeartbeats 16000000 in
theorem nodl_calls (vs:List Lv) (gl:Nat) (Av:Option Addr) (nv cv:Nat) (b:Int) (S:Nat→Prop) (t:Tm) (p:Pl) (w:World) (hnv:nv=vs.length) (hn50:nv≤1000) (hgl:w.heap[gl]?=some (.cells #[.slice Av nv cv] 23 (0,0))) (hvs:LvIn w w.heap.size Av cv (.mk 0 0 vs)) (hin:TmS w S p t):Calls Try.prog 87 #[tmV p t,.int .i64 b,.pointer (some ⟨gl,0,none⟩)] w (TmGot w S (lvF vs t b)):=by
 have HGL:=Ak hgl
 have HVS:=Ak hvs
 have HNV:=Ak hnv
 clear hnv hgl hvs
 obtain ⟨pA,pc,pB,pd,pK,pe⟩:=p
 have hin2:TmS w (fun b=>S b∧b<w.heap.size) ⟨pA,pc,pB,pd,pK,pe⟩ t:=hin.mono fun b h1 h2=>⟨h1,h2⟩
 have HIN:=Ak hin2
 have HS:=Ak (show ∀ b,(S b∧b<w.heap.size)→b<w.heap.size from fun b h=>h.2)
 have hll:=hin.lv.len
 have hln:=hin.ls.len
 clear hin hin2
 obtain ⟨W,hW⟩:∃ W,W=((w.alloc (tmO ⟨pA,pc,pB,pd,pK,pe⟩ t)).alloc (.cells #[.int .i64 0,.int .i64 0,.string ⟨#[]⟩,.int .i64 0,.int .i64 0,.slice none 0 0,.slice none 0 0,.slice none 0 0] 28 (0,0))).alloc (.cells #[.int .i64 t.kind,.int .i64 0,.string ⟨#[]⟩,.int .i64 0,.int .i64 0,.slice none 0 0,.slice none 0 0,.slice none 0 0] 28 (0,0)):=⟨_,rfl⟩
 have hX:W.heap[w.heap.size]?=some (tmO ⟨pA,pc,pB,pd,pK,pe⟩ t):=by rw [hW];exact blk_alloc (box0 w _ _) _
 have hst:NdB w W (outN t.kind 0 noName (.mk 0 0 []) none 0 (.slice none 0 0)):=by
  rw [hW]
  refine ⟨?_,blk_alloc (box1 w _ _) _,below_alloc (below_alloc (below_alloc (Below.refl _ _) _) _) _⟩
  have:=blk_new ((w.alloc (tmO ⟨pA,pc,pB,pd,pK,pe⟩ t)).alloc (.cells #[.int .i64 0,.int .i64 0,.string noName,.int .i64 0,.int .i64 0,.slice none 0 0,.slice none 0 0,.slice none 0 0] 28 (0,0))) (outN t.kind 0 noName (.mk 0 0 []) none 0 (.slice none 0 0))
  simp only [World.size_alloc] at this
  exact this
 have HX:=Ak hX
 have HST:=Ak hst
 unfold tmV
 go_enter Try.func87,Try.ntmps87
 go_upto_region 2 with (fail)
 rw [← hW]
 clear hW hX hst
 obtain ⟨c0,c1,c2,c3,c4,c5,c6,c7⟩:=row8 HX.out
 dsimp only at c5 c6 c7 hll hln
 obtain ⟨r0,r1,r2,r3,r4,r5,r6,r7,f0,f1,f2,f3,f4,f5,f6,f7⟩:=row8c HST.out.o
 have hlev:t.lv.kids.length≤9223372036854775807:=by omega
 obtain ⟨n,hn⟩:∃ n,n=t.ls.length:=⟨_,rfl⟩
 have hn40:n * 40≤140737488355328:=by rw [hn];exact HIN.out.fit.2.2
 have hn9:n≤9223372036854775807:=by rw [hn];exact Nat.le_trans hln.1 hln.2
 rw [← hn] at c6
 rw [← hn]
 have HN:=Ak hn
 clear hn hll hln
 have gc:=gl_cell HGL.out HST.out.bel
 go_upto_block 0 with (fail)
 go_cut [] (fun wr=>∃ pq:Pl,Aside0 (NdB w wr (tmO pq (lvF vs t b)))∧Aside0 (TmS wr (fun b=>(S b∧b<w.heap.size)∨w.heap.size+3≤b) pq (lvF vs t b)))
 case first =>
  by_cases h1:t.kind=1
  ·have HE:=Ak (show lvF vs t b=.mk t.kind t.num noName (.mk 0 0 []) [] [] by unfold lvF;rw [if_pos h1,if_neg (by omega),if_neg (by omega),if_neg (by omega)])
   have b1:(t.kind == 1)=true:=by simp [h1]
   clear h1
   go_wp2
   go_meet
   have hch:=chg_set W (w.heap.size+1+1) 1 (.int .i64 t.num)
   case rel =>
    rw [HE.out]
    exact ⟨⟨none,0,none,0,none,0⟩,⟨⟨blk_put HST.out.o 1 _ rfl,(hch.block _ (blk_lt HST.out.res) (by omega)).trans HST.out.res,Chg.trans_below HST.out.bel hch (fun _ e=>by omega) HST.out.bel.size⟩⟩,⟨.mk (fun _=>default) (LvS.leaf _ _ _ _) (LvS.leaf _ _ _ _) (by simp) (by simp) ⟨HIN.out.fit.1,by decide,by simp⟩ (fun i x h=>by simp at h) (fun i x h=>by simp at h)⟩⟩
  have b1:(t.kind == 1)=false:=by simp [h1]
  have H1:=Ak h1
  clear h1
  by_cases h2:t.kind=2
  ·have HE:=Ak (show lvF vs t b=.mk t.kind 0 noName (instL vs t.lv) [] [] by unfold lvF;rw [if_neg H1.out,if_neg (by omega),if_pos h2,if_neg (by omega)])
   have b2:(t.kind == 2)=true:=by simp [h2]
   clear h2
   go_wp2_with (first
    | (go_at_call 88;go_must (refine (instv_calls (fun b=>S b∧b<w.heap.size) pA pc t.lv Av nv cv vs _ (((HIN.out.lv).same fun k hk hz=>HST.out.bel.block k hk.2).all) ((HVS.out.stay HST.out.bel).mono HST.out.bel.size) HNV.out hn50).mono ?_;obtain ⟨y,hy⟩:∃ y,y=instL vs t.lv:=⟨_,rfl⟩;rw [← hy];have HY:=Ak hy;rintro e w2 ⟨A2,cc2,rfl,hl2,hb⟩;have HL2:=Ak hl2;have HST2:=Ak (show NdB w w2 _ from ⟨blk_below HST.out.o hb,blk_below HST.out.res hb,below_then HST.out.bel HST.out.bel.size hb⟩);have HZ2:=Ak (nd_base HST.out);obtain ⟨r0,r1,r2,r3,r4,r5,r6,r7,f0,f1,f2,f3,f4,f5,f6,f7⟩:=row8c HST2.out.o;clear hb hl2 hy;simp only [lvV])))
   go_meet
   have hch:=chg_set3' w2 (w.heap.size+1+1) 3 4 5 (.int .i64 y.kind) (.int .i64 y.num) (.slice A2 y.kids.length cc2)
   have hz2:=HZ2.out
   case rel =>
    rw [HE.out,← HY.out]
    refine ⟨⟨A2,cc2,none,0,none,0⟩,⟨⟨blk_put (blk_put (blk_put HST2.out.o 3 _ rfl) 4 _ rfl) 5 _ rfl,(hch.block _ (blk_lt HST2.out.res) (by omega)).trans HST2.out.res,Chg.trans_below HST2.out.bel hch (fun _ e=>by omega) HST2.out.bel.size⟩⟩,⟨.mk (fun _=>default) ?_ (LvS.leaf _ _ _ _) (by simp) (by simp) ⟨by decide,by decide,by simp⟩ (fun i x h=>by simp at h) (fun i x h=>by simp at h)⟩⟩
    exact (HL2.out.same fun k hk hz=>hch.block k hz (fun e=>by rcases hk with hk | hk <;> omega)).mono fun k hk _=>hk.imp id fun h=>by omega
  have b2:(t.kind == 2)=false:=by simp [h2]
  have H2:=Ak h2
  clear h2
  by_cases h7:t.kind=7
  ·have HE:=Ak (show lvF vs t b=.mk t.kind 0 t.name (.mk 0 0 []) (t.ls.map (instL vs)) [] by unfold lvF;rw [if_neg H1.out,if_pos h7,if_neg H2.out,if_pos h7])
   have b7:(t.kind == 7)=true:=by simp [h7]
   clear h7
   go_upto_block 1 with (fail)
   have hch:=chg_set W (w.heap.size+1+1) 2 (.string t.name)
   have hst1:NdB w (W.setCell ⟨w.heap.size+1+1,2,none⟩ (.string t.name)) (outN t.kind 0 t.name (.mk 0 0 []) none 0 (.slice none 0 0)):=⟨blk_put HST.out.o 2 _ rfl,(hch.block _ (blk_lt HST.out.res) (by omega)).trans HST.out.res,Chg.trans_below HST.out.bel hch (fun _ e=>by omega) HST.out.bel.size⟩
   obtain ⟨W1,hW1⟩:∃ W1,W1=W.setCell ⟨w.heap.size+1+1,2,none⟩ (.string t.name):=⟨_,rfl⟩
   rw [← hW1] at hst1 ⊢
   have HST1:=Ak hst1
   clear hst1 hch hW1
   have gc1:=gl_cell HGL.out HST1.out.bel
   go_wp2
   go_loopw [34] (fun i wr=>∃ (j:Nat) (V:Value),i=.int .i64 j∧j≤n∧Aside0 (NdB w wr (outN t.kind 0 t.name (.mk 0 0 []) none 0 V))∧Aside0 (KidsL wr (fun b=>S b∧b<w.heap.size) (w.heap.size+3) V ((t.ls.take j).map (instL vs)))) (fun i _=>n - (intOf i).toNat)
   case atStart=>exact ⟨0,.slice none 0 0,rfl,Nat.zero_le _,HST1,⟨KidsL.nil _ _ _⟩⟩
   case round =>
    clear gc gc1 HST1 HST HX c0 c1 c2 c3 c4 c5 c6 c7 r0 r1 r2 r3 r4 r5 r6 r7 f0 f1 f2 f3 f4 f5 f6 f7
    obtain ⟨j,V,rfl,hj,HST,HK⟩:=hrel
    by_cases hlt:j<n
    ·obtain ⟨x,hx⟩:∃ x,t.ls[j]?=some x:=⟨_,List.getElem?_eq_getElem (by rw [← HN.out];exact hlt)⟩
     obtain ⟨A',c',hcs,hxin⟩:=((HIN.out.ls).same (w':=wr) fun k hk hz=>HST.out.bel.block k hk.2).kid j x hx
     obtain ⟨ad,rfl,hc1,hc2,hc3⟩:=hcs.facts
     have HX:=Ak hx
     have HXIN:=Ak hxin
     obtain ⟨y,hy⟩:∃ y,y=instL vs x:=⟨_,rfl⟩
     have HY:=Ak hy
     have HTK:=Ak (show (t.ls.take (j+1)).map (instL vs)=(t.ls.take j).map (instL vs) ++ [y] by rw [List.take_add_one,hx,List.map_append,hy];rfl)
     have HTL:=Ak (show ((t.ls.take j).map (instL vs)).length=j by rw [List.length_map,List.length_take];have:=HN.out;omega)
     clear hcs hx hxin hy
     have hco:=blk_alloc HST.out.o (.cells #[.int .i64 x.kind,.int .i64 x.num,.slice A' x.kids.length c'] 25 (0,0))
     have hcv:(wr.alloc (.cells #[.int .i64 x.kind,.int .i64 x.num,.slice A' x.kids.length c'] 25 (0,0))).cell? ⟨w.heap.size+1+1,6,none⟩=some V:=by
      rw [cell_of_row _ _ _ _ _ _ hco];rfl
     have hcz:=blk_frozen hco 6
     have gcr:=gl_cell HGL.out (below_alloc HST.out.bel (.cells #[.int .i64 x.kind,.int .i64 x.num,.slice A' x.kids.length c'] 25 (0,0)))
     have gcw:=gl_cell HGL.out HST.out.bel
     clear hco
     go_upto_block 2 with (fail)
     go_cut [] (fun w5=>∃ v5,Aside0 (NdB w w5 (outN t.kind 0 t.name (.mk 0 0 []) none 0 v5))∧Aside0 (KidsL w5 (fun b=>S b∧b<w.heap.size) (w.heap.size+3) v5 ((t.ls.take (j+1)).map (instL vs))))
     case first =>
      go_upto_region 12 with (fail)
      go_region_law (first
       | (go_simp;go_at_call 88;refine (instv_calls (fun b=>S b∧b<w.heap.size) A' c' x Av nv cv vs _ ((HXIN.out.later (by repeat' first | exact Below.refl _ _ | apply below_drew | apply below_alloc)).all) (LvIn.mono (HVS.out.stay (below_then HST.out.bel HST.out.bel.size (by repeat' first | exact Below.refl _ _ | apply below_drew | apply below_alloc))) (Nat.le_trans HST.out.bel.size (by simp))) HNV.out hn50).mono ?_;rw [← HY.out];rintro e w5 ⟨A5,c5,rfl,hl5,hb5⟩;have ST5:=Ak (nd_in HST.out HK.out (by repeat' first | exact Below.refl _ _ | apply below_drew | apply below_alloc) hb5 hl5);have hcv5:=ST5.out.cell;have hcz5:=blk_frozen ST5.out.o 6;have hcw5:=ST5.out.cell2 (.cells #[.int .i64 y.kind,.int .i64 y.num,.slice A5 y.kids.length c5] 25 (0,0));clear hl5 hb5;simp only [lvV])
       | (first
         | (have STA:=Ak ST5.out;obtain ⟨cells,fA,fc,hown,hkids⟩:=STA.out.kids;have hownj:=hown;rw [HTL.out] at hownj;refine step_append_cells (w0:=w5) (W:=w5) (w.heap.size+3) (by simp [Region.wanted]) (.tmp 39) (.tmp 43) 23 25 _ 3 40 rfl Try.underlying23 infoLv rfl (by decide) (by decide) V j cells [.int .i64 y.kind,.int .i64 y.num,.slice A5 y.kids.length c5] rfl rfl rfl (by simp [Value.oneCell']) hownj (Below.refl _ _) (nd_base STA.out.toNdB) (by omega) ?_;intro v6 w6 ho6 _ hg6 hat6;obtain ⟨A6,c6,rfl⟩:=own_slice ho6;have ST6:=Ak (nd_push HS.out STA.out hown hkids (by rw [HTL.out];exact ho6) hg6 hat6);have hcv6:=ST6.out.cell;have hcz6:=blk_frozen ST6.out.o 6;clear hown hownj hkids ho6 hg6 hat6 STA)
         | (have STA:=Ak ST5.out.drew;obtain ⟨cells,fA,fc,hown,hkids⟩:=STA.out.kids;have hownj:=hown;rw [HTL.out] at hownj;refine step_append_cells (w0:=w5.drew) (W:=w5.drew) (w.heap.size+3) (by simp [Region.wanted]) (.tmp 39) (.tmp 43) 23 25 _ 3 40 rfl Try.underlying23 infoLv rfl (by decide) (by decide) V j cells [.int .i64 y.kind,.int .i64 y.num,.slice A5 y.kids.length c5] rfl rfl rfl (by simp [Value.oneCell']) hownj (Below.refl _ _) (nd_base STA.out.toNdB) (by omega) ?_;intro v6 w6 ho6 _ hg6 hat6;obtain ⟨A6,c6,rfl⟩:=own_slice ho6;have ST6:=Ak (nd_push HS.out STA.out hown hkids (by rw [HTL.out];exact ho6) hg6 hat6);have hcv6:=ST6.out.cell;have hcz6:=blk_frozen ST6.out.o 6;clear hown hownj hkids ho6 hg6 hat6 STA)))
      all_goals (go_wp2;go_meet)
      all_goals (exact nd_fin HS.out ST6.out HTK.out)
     case rest =>
      clear HST HK HXIN hc1 hc2 hc3 hcv hcz gcr gcw
      obtain ⟨V2,HST,HK⟩:=hcut
      go_wp2
      go_roundw
      case rel=>exact ⟨j+1,V2,by go_num,by omega,HST,HK⟩
      case measure=>(simp [intOf];try omega)
    ·obtain rfl:j=n:=by omega
     have hlt':decide ((j:Int)<j)=false:=by simp
     have HTJ:=Ak (show t.ls.take j=t.ls from List.take_of_length_le (by rw [HN.out];exact Nat.le_refl _))
     go_wp2
     go_meet
     case rel =>
      rw [HTJ.out] at HK
      obtain ⟨A9,c9,rfl,hlv⟩:=HK.out.level
      rw [HE.out]
      exact ⟨⟨none,0,A9,c9,none,0⟩,HST,⟨.mk (fun _=>default) (LvS.leaf _ _ _ _) hlv (by simp) (by simp) ⟨by decide,HIN.out.fit.2.1,by rw [List.length_map];exact HIN.out.fit.2.2⟩ (fun i x h=>by simp at h) (fun i x h=>by simp at h)⟩⟩
  ·have HE:=Ak (show lvF vs t b=.mk t.kind 0 noName (.mk 0 0 []) [] [] by unfold lvF;rw [if_neg H1.out,if_neg h7,if_neg H2.out,if_neg h7])
   have b7:(t.kind == 7)=false:=by simp [h7]
   clear h7
   go_wp2
   go_meet
   case rel =>
    rw [HE.out]
    exact ⟨⟨none,0,none,0,none,0⟩,HST,⟨.mk (fun _=>default) (LvS.leaf _ _ _ _) (LvS.leaf _ _ _ _) (by simp) (by simp) ⟨by decide,by decide,by simp⟩ (fun i x h=>by simp at h) (fun i x h=>by simp at h)⟩⟩
 case rest =>
  clear gc c0 c1 c2 c3 c4 c5 c6 c7 r0 r1 r2 r3 r4 r5 r6 r7 f0 f1 f2 f3 f4 f5 f6 f7 HST HX
  obtain ⟨pq,HST,HTM⟩:=hcut
  obtain ⟨y,hy⟩:∃ y,y=lvF vs t b:=⟨_,rfl⟩
  rw [← hy] at HST HTM
  have HY:=Ak hy
  clear hy
  obtain ⟨c0,c1,c2,c3,c4,c5,c6,c7⟩:=row8 HST.out.o
  obtain ⟨r0,r1,r2,r3,r4,r5,r6,r7,f0,f1,f2,f3,f4,f5,f6,f7⟩:=row8c HST.out.res
  go_wp2
  refine bodyPost_ret (results_c rfl _ _ (w.heap.size+1) 28 #[.int .i64 y.kind,.int .i64 y.num,.string y.name,.int .i64 y.lv.kind,.int .i64 y.lv.num,.slice pq.A y.lv.kids.length pq.c,.slice pq.B y.ls.length pq.d,.slice pq.K y.kids.length pq.e] (0,0) _ rfl (set8 HST.out.res) Try.underlying28 rfl (by kernel_rfl)) rfl ?_
  have hch:=chg_set8 wc (w.heap.size+1) (.int .i64 y.kind) (.int .i64 y.num) (.string y.name) (.int .i64 y.lv.kind) (.int .i64 y.lv.num) (.slice pq.A y.lv.kids.length pq.c) (.slice pq.B y.ls.length pq.d) (.slice pq.K y.kids.length pq.e)
  rw [← HY.out]
  exact ⟨pq,rfl,(HTM.out.same fun b hb hz=>hch.block b hz (by rcases hb with hb | hb <;> omega)).mono fun b hb _=>hb.imp And.left fun h=>by omega,Chg.trans_below HST.out.bel hch (fun _ e=>by omega) HST.out.bel.size⟩

end Go.Proofs.Ytdboloabpjmgaaa

namespace Go.Proofs.Ytdboloabpjmgaaa
open Go.RowKit Go.Shelf Go.Proofs.YtdboloabpjmgaaaW.PrintWords Go.RegionInvYtdboloabpjmgaaa Go.RegionEYtdboloabpjmgaaa
attribute [local go_sem] Oper.semAt_some

abbrev vrIl (gl:Nat):Value:=.func (.func 87) #[] #[.pointer (some ⟨gl,0,none⟩)]
abbrev rbWIl (w:World) (p:Pl) (t:Tm) (b:Int) (gl:Nat):World:=
 (((w.alloc (tmO p t)).alloc (.cells #[.int .i64 b] 3 (0,0))).alloc (.cells #[vrIl gl] 68 (0,0))).alloc (.cells #[.int .i64 0,.int .i64 0,.string ⟨#[]⟩,.int .i64 0,.int .i64 0,.slice none 0 0,.slice none 0 0,.slice none 0 0] 28 (0,0))
set_option maxRecDepth 100000 in
set_option maxHeartbeats 16000000 in
theorem reb_Il (RF:Tm→Int→Tm) (Rep:World→Prop) (S:Nat→Prop) (g0 g1:Nat) (h01:g0≤g1) (hS:∀ k,S k→k<g0) (gl:Nat)
  (hRep:∀ (W W':World),Rep W→(∀ k,k<g1→W'.heap[k]?=W.heap[k]?)→Rep W')
  (hvis:∀ (t:Tm) (p:Pl) (b:Int) (w:World),leafT t=true→0≤b→b≤1000000→g1≤w.heap.size→TmS w S p t→Rep w→Calls Try.prog 87 #[tmV p t,.int .i64 b,.pointer (some ⟨gl,0,none⟩)] w (TmGot w S (RF t b)))
  (N:Nat):∀ (t:Tm),SizeOf.sizeOf t<N→∀ (p:Pl) (b:Int) (w:World),0≤b→b+depthT t≤1000000→g1≤w.heap.size→TmS w S p t→Rep w →
  Calls Try.prog 60 #[tmV p t,.int .i64 b,vrIl gl] w (TmGot w S (rebP RF t b)):=by
 induction N with
 | zero=>intro t h;omega
 | succ N ih =>
  intro t hN p b w hb0 hb1 hg1 hin hR
  have hg:g0≤w.heap.size:=Nat.le_trans h01 hg1
  have IH:=Ak ih
  have HSS:=Ak hS
  have HRP:=Ak hRep
  have HVS:=Ak hvis
  have HIN:=Ak hin
  have HR:=Ak hR
  have HNN:=Ak hN
  have HBD:=Ak hb1
  have hdp:1≤depthT t:=by rw [depthT];omega
  have hb2:b≤1000000:=by omega
  have hz0:(rbWIl w p t b gl).heap.size=w.heap.size+4:=by simp
  have hb0w:Below w.heap.size w (rbWIl w p t b gl):=below_alloc (below_alloc (below_alloc (below_alloc (Below.refl _ _) _) _) _) _
  have HX0:=Ak (show (rbWIl w p t b gl).heap[w.heap.size]?=some (tmO p t) from blk_alloc (blk_alloc (blk_alloc (blk_new _ _) _) _) _)
  have HX1:=Ak (show (rbWIl w p t b gl).heap[w.heap.size+1]?=some (.cells #[.int .i64 b] 3 (0,0)) by have:=blk_new (w.alloc (tmO p t)) (.cells #[.int .i64 b] 3 (0,0));simp only [World.size_alloc] at this;exact blk_alloc (blk_alloc this _) _)
  have HX2:=Ak (show (rbWIl w p t b gl).heap[w.heap.size+1+1]?=some (.cells #[vrIl gl] 68 (0,0)) by have:=blk_new ((w.alloc (tmO p t)).alloc (.cells #[.int .i64 b] 3 (0,0))) (.cells #[vrIl gl] 68 (0,0));simp only [World.size_alloc] at this;exact blk_alloc this _)
  have HX3:=Ak (show (rbWIl w p t b gl).heap[w.heap.size+1+1+1]?=some (outK 0 (.slice none 0 0)) by have:=blk_new (((w.alloc (tmO p t)).alloc (.cells #[.int .i64 b] 3 (0,0))).alloc (.cells #[vrIl gl] 68 (0,0))) (outK 0 (.slice none 0 0));simp only [World.size_alloc] at this;exact this)
  have HZ0:=Ak hz0
  have HB0:=Ak hb0w
  clear ih hRep hvis hin hR hN hz0 hb0w hb1
  unfold tmV vrIl
  refine (callsIn_wide (n:=5)).1 ?_
  refine callsIn_of_wp_marks Try.func60 rfl trivial ?_ rfl
  simp only [Try.ntmps60,List.size_toArray,List.length_cons,List.length_nil,Nat.reduceAdd,Nat.reduceSub,Array.replicate_succ,Array.replicate_zero,List.push_toArray,List.append_toArray,List.nil_append,List.cons_append]
  cases hlf:leafT t with
  | true =>
   have HLF:=Ak hlf
   have HE:=Ak (reb_leaf (RF:=RF) (b:=b) hlf)
   clear hlf
   gi_wp2
   refine ⟨trivial,?_⟩
   gi_at_call 75
   refine (callsIn_wide.2 (leaf_calls t p _)).mono ?_
   rintro e w1 ⟨rfl,hb1⟩
   rw [HLF.out]
   have hX0:=(hb1.block w.heap.size (by rw [HZ0.out];omega)).trans HX0.out
   have hX1:=(hb1.block _ (by rw [HZ0.out];omega)).trans HX1.out
   have hX2:=(hb1.block _ (by rw [HZ0.out];omega)).trans HX2.out
   have hX3:=(hb1.block _ (by rw [HZ0.out];omega)).trans HX3.out
   have HX31:=Ak hX3
   have HB1:=Ak (show Below w.heap.size w w1 from Below.trans HB0.out (hb1.mono HB0.out.size))
   obtain ⟨c0,c1,c2,c3,c4,c5,c6,c7⟩:=row8 hX0
   have d1:w1.cell? ⟨w.heap.size+1,0,none⟩=some (.int .i64 b):=by (rw [cell_of_row _ _ _ _ _ _ hX1];rfl)
   have d2:w1.cell? ⟨w.heap.size+1+1,0,none⟩=some (vrIl gl):=by (rw [cell_of_row _ _ _ _ _ _ hX2];rfl)
   clear hb1 hX0 hX1 hX2 hX3
   gi_wp2
   refine ⟨trivial,?_⟩
   gi_at_call 87
   refine (callsIn_wide.2 (HVS.out t p b w1 HLF.out hb0 hb2 (Nat.le_trans hg1 HB1.out.size) (TmS.stay HIN.out HSS.out (HB1.out.mono hg)) (HRP.out _ _ HR.out (fun k hk=>HB1.out.block k (by omega))))).mono ?_
   rintro e w3 ⟨q9,rfl,ht9,hb3⟩
   have hX3:=(hb3.block _ (blk_lt HX31.out)).trans HX31.out
   have HX33:=Ak hX3
   have HT9:=Ak ht9
   have HB3:=Ak hb3
   obtain ⟨r0,r1,r2,r3,r4,r5,r6,r7,f0,f1,f2,f3,f4,f5,f6,f7⟩:=row8c hX3
   obtain ⟨y,hy⟩:∃ y,y=RF t b:=⟨_,rfl⟩
   rw [← hy] at HT9 HE ⊢
   clear hX3 ht9 hb3 hy c0 c1 c2 c3 c4 c5 c6 c7
   unfold tmV
   gi_wp2
   refine ⟨_,results_c rfl _ _ (w.heap.size+1+1+1) 28 #[.int .i64 y.kind,.int .i64 y.num,.string y.name,.int .i64 y.lv.kind,.int .i64 y.lv.num,.slice q9.A y.lv.kids.length q9.c,.slice q9.B y.ls.length q9.d,.slice q9.K y.kids.length q9.e] (0,0) _ rfl (set8 HX33.out) Try.underlying28 rfl (by kernel_rfl),?_⟩
   have hch:=chg_set8 w3 (w.heap.size+1+1+1) (.int .i64 y.kind) (.int .i64 y.num) (.string y.name) (.int .i64 y.lv.kind) (.int .i64 y.lv.num) (.slice q9.A y.lv.kids.length q9.c) (.slice q9.B y.ls.length q9.d) (.slice q9.K y.kids.length q9.e)
   rw [HE.out]
   have hz1:=blk_lt HX31.out
   exact ⟨q9,rfl,(HT9.out.same fun k hk hz=>hch.block k hz (by rcases hk with hk | hk;have:=HSS.out _ hk;omega;omega)).mono fun k hk _=>hk.imp id fun h=>by omega,Chg.trans_below (below_then HB1.out HB1.out.size HB3.out) hch (fun _ e=>by omega) (Nat.le_trans HB1.out.size HB3.out.size)⟩
  | false =>
   have HLF:=Ak hlf
   have HE:=Ak (reb_node (RF:=RF) (b:=b) hlf)
   clear hlf
   gi_wp2
   refine ⟨trivial,?_⟩
   gi_at_call 75
   refine (callsIn_wide.2 (leaf_calls t p _)).mono ?_
   rintro e w1 ⟨rfl,hb1⟩
   rw [HLF.out]
   have hX0:=(hb1.block w.heap.size (by rw [HZ0.out];omega)).trans HX0.out
   have hX1:=(hb1.block _ (by rw [HZ0.out];omega)).trans HX1.out
   have hX2:=(hb1.block _ (by rw [HZ0.out];omega)).trans HX2.out
   have hX3:=(hb1.block _ (by rw [HZ0.out];omega)).trans HX3.out
   have hz1:w.heap.size+4≤w1.heap.size:=by have:=hb1.size;rw [HZ0.out] at this;exact this
   have HX01:=Ak hX0
   have HX11:=Ak hX1
   have HX21:=Ak hX2
   have HX31:=Ak hX3
   have HB1:=Ak (show Below w.heap.size w w1 from Below.trans HB0.out (hb1.mono HB0.out.size))
   obtain ⟨c0,c1,c2,c3,c4,c5,c6,c7⟩:=row8 hX0
   have hlt0:w.heap.size<w1.heap.size:=by omega
   clear hb1 hX0 hX1 hX2 hX3
   gi_wp2
   refine ⟨trivial,?_⟩
   gi_at_call 96
   obtain ⟨W1,hW1⟩:∃ W1,W1=w1.alloc (outK t.kind (.slice none 0 0)):=⟨_,rfl⟩
   rw [← hW1]
   have HO1:=Ak (show W1.heap[w1.heap.size]?=some (outK t.kind (.slice none 0 0)) by rw [hW1];exact blk_new _ _)
   have HBW1:=Ak (show Below w1.heap.size w1 W1 by rw [hW1];exact below_alloc (Below.refl _ _) _)
   have HZW1:=Ak (show W1.heap.size=w1.heap.size+1 by rw [hW1];simp)
   refine (callsIn_wide.2 (tkids_calls p t W1)).mono ?_
   rintro e w2 ⟨rfl,hw2⟩
   have HZX2:=Ak (show w2.heap[W1.heap.size]?=some (tmO p t) by rw [hw2];exact blk_new _ _)
   have HB2:=Ak (show Below W1.heap.size W1 w2 by rw [hw2];exact below_alloc (Below.refl _ _) _)
   have HZW2:=Ak (show w2.heap.size=W1.heap.size+1 by rw [hw2];simp)
   clear hw2 hW1 c0 c1 c2 c3 c4 c5 c6 c7
   have HBB:=Ak (show Below w1.heap.size w1 w2 from Below.trans HBW1.out (HB2.out.mono (by have:=HZW1.out;omega)))
   have HO2:=Ak (show w2.heap[w1.heap.size]?=some (outK t.kind (.slice none 0 0)) from (HB2.out.block _ (by have:=HZW1.out;omega)).trans HO1.out)
   gi_wp2
   obtain ⟨q,hq⟩:=(TmS.stay HIN.out HSS.out (Below.trans (HB1.out.mono hg) (HBB.out.mono (by omega)))).kid
   have HQ:=Ak hq
   have hlen:=HIN.out.len
   have hzz:=blk_lt HZX2.out
   have hzs:w1.heap.size<W1.heap.size:=by have:=HZW1.out;omega
   have hzs2:W1.heap.size<w2.heap.size:=hzz
   clear hq
   refine wpIn_rangeFunc_ownH (F:=Fence.wide) rfl (by decide) (gf:=117) (lb:=#[.pointer (some ⟨W1.heap.size,0,none⟩)]) rfl trivial (enters_of Try.func117 (by kernel_rfl) rfl)
    (kids_stops (5 - 1) (by decide) p t q W1.heap.size w2.heap.size (fun k=>k=w1.heap.size) S w2 HZX2.out hzz (Nat.le_refl _) (fun e=>by omega) (fun k hk=>by have hk:=HSS.out _ hk;exact ⟨by omega,fun h=>by omega⟩) (by omega) (fun i x hx=>(HQ.out i x hx).1))
    kpG_trans (kpG_put (Nat.le_refl _)) (Below.refl _ _) (fun _=>rfl)
    (fun pre W=>∃ V,W.heap[w1.heap.size]?=some (outK t.kind V)∧KidsT W S w2.heap.size V (rebKids RF t b pre)∧Chg (fun k=>k=w1.heap.size) w2 W)
    (fun _ _ _=>False)
    (fun pre X Y row hs hg hr=>by obtain ⟨V,h1,h2,h3⟩:=hs;exact ⟨V,(hg.block _ (blk_lt h1) (fun e=>by have:=(hr _ e.symm).1;omega)).trans h1,h2.grown hg (fun r e=>row_no (hr r e).2),chg_grown h3 hg (fun r e=>(hr r e).1)⟩)
    (fun c pre X Y row hs hg hr=>hs)
    ⟨.slice none 0 0,HO2.out,KidsT.nil _ _ _,Chg.refl _ _⟩
    (fun x a' W=>∃ Bx,w2.heap.size≤Bx∧W.heap[Bx]?=some (tmO (q x) (kidF t x))∧(∀ V,W.heap[w1.heap.size]?=some (outK t.kind V)→V.ownBlock≠some Bx)∧a' = { tmps:=#[tmV p t,.int .i64 b,vrIl gl,.pointer (some ⟨w.heap.size,0,none⟩),.pointer (some ⟨w.heap.size+1,0,none⟩),.pointer (some ⟨w.heap.size+1+1,0,none⟩),.pointer (some ⟨w.heap.size+1+1+1,0,none⟩),.pointer (some ⟨w1.heap.size,0,none⟩),.int .i64 (moreZ t x),.pointer (some ⟨Bx,0,none⟩),tmV p t,.bool false,undef,undef,undef,undef,.pointer (some ⟨w.heap.size,0,none⟩),.int .i64 t.kind,.agg #[.int .i64 t.kind,.int .i64 0,.string ⟨#[]⟩,.int .i64 0,.int .i64 0,.slice none 0 0,.slice none 0 0,.slice none 0 0],tmV p t,.func (.func 117) #[] #[.pointer (some ⟨W1.heap.size,0,none⟩)],.int .i64 (moreZ t x),tmV (q x) (kidF t x),undef,undef,undef,undef,undef,undef,undef,undef,undef,undef,undef,undef,undef,undef],defers:=[] })
    (fun x a' _ X Y row hs hg hr=>by
     obtain ⟨Bx,h1,h2,h3,h4⟩:=hs
     refine ⟨Bx,h1,(hg.block _ (blk_lt h2) (fun e=>by obtain ⟨o,ho,hc⟩:=(hr _ e.symm).2;rw [h2] at ho;cases ho;cases hc)).trans h2,fun V hV=>?_,h4⟩
     by_cases hz:w1.heap.size<X.heap.size
     ·exact h3 V ((hg.block _ hz (fun e=>by have:=(hr _ e.symm).1;omega)).symm.trans hV)
     ·exact absurd (blk_lt h2) (by omega))
    ?assign ?body ?done ?stop
   case assign =>
    rintro l pre x W K ⟨V,hVO,hKT,hCW⟩ hK
    dsimp only [encK,tmV]
    have hb1:Below W.heap.size W (W.alloc (tmO (q x) (kidF t x))):=below_alloc (Below.refl _ _) _
    have HKK:=Ak (hK { tmps:=#[tmV p t,.int .i64 b,vrIl gl,.pointer (some ⟨w.heap.size,0,none⟩),.pointer (some ⟨w.heap.size+1,0,none⟩),.pointer (some ⟨w.heap.size+1+1,0,none⟩),.pointer (some ⟨w.heap.size+1+1+1,0,none⟩),.pointer (some ⟨w1.heap.size,0,none⟩),.int .i64 (moreZ t x),.pointer (some ⟨W.heap.size,0,none⟩),tmV p t,.bool false,undef,undef,undef,undef,.pointer (some ⟨w.heap.size,0,none⟩),.int .i64 t.kind,.agg #[.int .i64 t.kind,.int .i64 0,.string ⟨#[]⟩,.int .i64 0,.int .i64 0,.slice none 0 0,.slice none 0 0,.slice none 0 0],tmV p t,.func (.func 117) #[] #[.pointer (some ⟨W1.heap.size,0,none⟩)],.int .i64 (moreZ t x),tmV (q x) (kidF t x),undef,undef,undef,undef,undef,undef,undef,undef,undef,undef,undef,undef,undef,undef],defers:=[] } _ (KeepsFrom.of_chg (Chg.of_below (S:=fun _=>False) hb1) (fun k h=>h.elim)) ⟨hb1.size,fun k hk _=>hb1.block k (by have:=hCW.size;omega)⟩ ⟨V,blk_alloc hVO _,hKT.later hb1,chg_trans hCW (Chg.of_below hb1)⟩
     ⟨W.heap.size,hCW.size,blk_new _ _,fun V' hV'=>by
      have e1:=(blk_alloc hVO (tmO (q x) (kidF t x))).symm.trans hV'
      obtain rfl:V=V':=by injection e1 with e1;injection e1 with e1;injection e1 with e1;simpa using e1
      obtain ⟨cells,qq,ho,_⟩:=hKT
      intro e
      have:=own_lt ho _ e
      omega,rfl⟩)
    clear hK hKT hCW hVO hb1
    gi_wp2
    exact HKK.out
   case body =>
    rintro l pre x a' W hl ⟨r,hr⟩ ⟨V,hVO,hKT,hCW⟩ ⟨Bx,hBx,bX,hVB,rfl⟩ hlt
    have hVB2:=hVB V hVO
    obtain ⟨cells,qq,hown,hkids⟩:=hKT
    obtain ⟨A9,c9,rfl⟩:=own_slice hown
    have hszW:=hCW.size
    have hn3:=nK_le3 t
    have HPL:=Ak (rebKids_len RF t b pre)
    have hmz:=moreZ_in t x
    have HDK:=Ak (depth_kid t x)
    have hbm:0≤b+moreZ t x∧b+moreZ t x≤2000000:=by omega
    have st:∀ j,j<w1.heap.size→W.heap[j]?=w1.heap[j]?:=fun j h1=>(hCW.block j (by omega) (by omega)).trans (HBB.out.block j h1)
    have hX1:=(st _ (by omega)).trans HX11.out
    have hX2:=(st _ (by omega)).trans HX21.out
    have HIH:=Ak (show ∀ w',W.heap.size≤w'.heap.size→(∀ k,k<g1→w'.heap[k]?=W.heap[k]?)→Calls Try.prog 60 #[tmV (q x) (kidF t x),.int .i64 (b+moreZ t x),vrIl gl] w' (TmGot w' S (rebP RF (kidF t x) (b+moreZ t x))) from fun w' hz hs=>by
     have hs2:∀ k,k<g1→w'.heap[k]?=w.heap[k]?:=fun k hk=>(hs k hk).trans ((st k (by omega)).trans (HB1.out.block k (by omega)))
     have hs3:∀ k,k<g1→w'.heap[k]?=w2.heap[k]?:=fun k hk=>(hs2 k hk).trans ((HBB.out.block k (by omega)).trans (HB1.out.block k (by omega))).symm
     exact IH.out (kidF t x) (by have:=kidF_lt t x;have:=HNN.out;omega) (q x) (b+moreZ t x) w' (by omega) (by have:=HBD.out;have:=HDK.out;omega) (by omega) ((HQ.out x _ (kidF_get t x)).2.same fun k hk _=>hs3 k (Nat.lt_of_lt_of_le (HSS.out _ hk) h01)) (HRP.out _ _ HR.out hs2))
    have HKID:=Ak hkids
    have HOWN:=Ak hown
    have HBX:=Ak bX
    have HVO:=Ak hVO
    have HCW:=Ak hCW
    obtain ⟨L,hL⟩:∃ L,(rebKids RF t b pre).length=L:=⟨_,rfl⟩
    have hL3:L≤3:=by rw [← hL,HPL.out];omega
    have HLE:=Ak hL
    clear st hl hVB hkids hown bX hVO hCW
    rw [hL] at hVB2 HOWN HVO HKID
    clear hL
    refine wpIn_block ?_
    refine rb_region ?hq W S w1.heap.size Bx (w.heap.size+1) (w.heap.size+1+1) w2.heap.size g0 g1 L c9 A9 cells t.kind b (moreZ t x) (q x) (kidF t x) (rebP RF (kidF t x) (b+moreZ t x)) (vrIl gl) HSS.out HVO.out HBX.out hX1 hX2 HOWN.out (by omega) (by omega) (by omega) hVB2 (by omega) (by omega) (by omega) (by omega) (by omega) (by omega) HIH.out ?_
    case hq =>
     rintro ⟨a1,wx,h⟩
     exact h
    intro w' u30 u32 u33 u34 O9 O11 v12 O12 v14 O14 hch _ _ h11 _ h12 hO12 h14 _ hap
    have hfin:=reb_round HLE.out HKID.out HOWN.out hch h12 hO12 (fun h=>hap _ h h14.2) (by omega) (by omega) (by omega) HSS.out
    have hsn:=rebKids_snoc RF t b pre x
    have hz':=hch.size
    have hC2:Chg (fun k=>k=w1.heap.size) w2 w':=⟨hch.os.trans HCW.out.os,hch.tape.trans HCW.out.tape,hch.output.trans HCW.out.output,Nat.le_trans HCW.out.size hch.size,fun k hk hn=>(hch.block k (by omega) (fun e=>e.elim (fun e=>by have:=own_base HOWN.out k e;omega) hn)).trans (HCW.out.block k hk hn)⟩
    exact ⟨⟨hch.size,fun k o hBk ho hc=>(hch.block k (blk_lt ho) (fun e=>e.elim (fun e=>own_cells HOWN.out e ho hc) (fun e=>by have e:k=w1.heap.size:=e;omega))).trans ho⟩,⟨hch.size,fun k hk hg=>hch.block k (by omega) (fun e=>e.elim (fun e=>by have:=own_base HOWN.out k e;omega) hg)⟩,u33,h14.1,by rw [hsn];exact hfin,hC2⟩
   case stop =>
    rintro D c pre WW hD hSp hf hKW
    exact hf.elim
   case done =>
    rintro D ys W hD rfl ⟨V,hVO,hKT,hCW⟩ hK
    obtain ⟨K9,e9,rfl,hterm⟩:=hKT.term
    have HTM:=Ak (hterm t.kind 0 noName ⟨by decide,by decide,by simp⟩)
    have hszW:=hCW.size
    have hres:=(hCW.block (w.heap.size+1+1+1) (by omega) (by omega)).trans ((HBB.out.block _ (by omega)).trans HX31.out)
    have HRES:=Ak hres
    have HKD:=Ak hK
    have HCW:=Ak hCW
    obtain ⟨o0,o1,o2,o3,o4,o5,o6,o7,-,-,-,-,-,-,-,-⟩:=row8c hVO
    obtain ⟨r0,r1,r2,r3,r4,r5,r6,r7,f0,f1,f2,f3,f4,f5,f6,f7⟩:=row8c hres
    have hz5:w1.heap.size<W.heap.size:=by omega
    have hne5:w1.heap.size≠w.heap.size+1+1+1:=by omega
    obtain ⟨m9,hm9⟩:∃ m,(rebKids RF t b (List.finRange (nK t))).length=m:=⟨_,rfl⟩
    have HM9:=Ak hm9
    rw [hm9] at o7
    clear hVO hKT hCW hK hterm hres hm9
    gi_wp2
    have hch:=chg_set8 W (w.heap.size+1+1+1) (.int .i64 t.kind) (.int .i64 0) (.string ⟨#[]⟩) (.int .i64 0) (.int .i64 0) (.slice none 0 0) (.slice none 0 0) (.slice K9 m9 e9)
    have hx5:=set8 (a0:=.int .i64 t.kind) (a1:=.int .i64 0) (a2:=.string ⟨#[]⟩) (a3:=.int .i64 0) (a4:=.int .i64 0) (a5:=.slice none 0 0) (a6:=.slice none 0 0) (a7:=.slice K9 m9 e9) HRES.out
    obtain ⟨WW,hWW⟩:∃ WW,WW=((((((((W.setCell ⟨w.heap.size+1+1+1,0,none⟩ (.int .i64 t.kind)).setCell ⟨w.heap.size+1+1+1,1,none⟩ (.int .i64 0)).setCell ⟨w.heap.size+1+1+1,2,none⟩ (.string ⟨#[]⟩)).setCell ⟨w.heap.size+1+1+1,3,none⟩ (.int .i64 0)).setCell ⟨w.heap.size+1+1+1,4,none⟩ (.int .i64 0)).setCell ⟨w.heap.size+1+1+1,5,none⟩ (.slice none 0 0)).setCell ⟨w.heap.size+1+1+1,6,none⟩ (.slice none 0 0)).setCell ⟨w.heap.size+1+1+1,7,none⟩ (.slice K9 m9 e9)):=⟨_,rfl⟩
    rw [← hWW] at hch hx5 ⊢
    clear hWW
    have hszV:=hch.size
    have hKW:WW.heap[D]?=some (.deferred (some [])):=(hch.block D (blk_lt HKD.out) (by omega)).trans HKD.out
    have hp:=chg_put WW D (.deferred none)
    have hx6:(WW.putObj D (.deferred none)).heap[w.heap.size+1+1+1]?=some (.cells #[.int .i64 t.kind,.int .i64 0,.string ⟨#[]⟩,.int .i64 0,.int .i64 0,.slice none 0 0,.slice none 0 0,.slice K9 m9 e9] 28 (0,0)):=(hp.block _ (blk_lt hx5) (by omega)).trans hx5
    refine ⟨by simp,.inl ⟨_,_,rfl,run_takeDeferred hKW,?_⟩⟩
    refine ⟨_,results_c rfl _ _ (w.heap.size+1+1+1) 28 #[.int .i64 t.kind,.int .i64 0,.string ⟨#[]⟩,.int .i64 0,.int .i64 0,.slice none 0 0,.slice none 0 0,.slice K9 m9 e9] (0,0) _ rfl hx6 Try.underlying28 rfl (by kernel_rfl),?_⟩
    rw [HE.out]
    have hnD:∀ k,CellsB W k→k≠D:=by
     rintro k ⟨cs,tt,fr,hk⟩ e
     rw [e,HKD.out] at hk
     cases hk
    refine ⟨⟨none,0,none,0,K9,e9⟩,by unfold tmV;rw [← HM9.out];rfl,((HTM.out.cells).same fun k hk hz=>(hp.block k (by omega) (hnD k hk.2)).trans (hch.block k hz (by rcases hk.1 with h | h;have:=HSS.out _ h;omega;omega))).mono fun k hk _=>hk.1.imp id fun h=>by omega,?_⟩
    refine Chg.trans_below (S:=fun k=>k=w1.heap.size∨k=w.heap.size+1+1+1∨k=D) (Below.trans HB1.out (HBB.out.mono HB1.out.size)) ?_ (fun k h=>by omega) (by have:=HB1.out.size;omega)
    exact chg_trans (HCW.out.mono fun k h=>.inl h) (chg_trans (hch.mono fun k h=>.inr (.inl h)) (hp.mono fun k h=>.inr (.inr h)))
end Go.Proofs.Ytdboloabpjmgaaa

namespace Go.Proofs.Ytdboloabpjmgaaa
open Go.RowKit Go.Proofs.YtdboloabpjmgaaaW.PrintWords Go.RegionInvYtdboloabpjmgaaa Go.RegionEYtdboloabpjmgaaa

theorem reb_instl (S:Nat→Prop) (g0 g1 gl B:Nat) (vs:List Lv) (Av:Option Addr) (nv cv:Nat) (t:Tm) (p:Pl) (w:World) (hok:okT t) (hnv:nv=vs.length) (hn50:nv≤1000) (h01:g0≤g1) (hS:∀ k,S k→k<g0) (hgl:gl<g1) (hB:B≤g1) (hg1:g1≤w.heap.size)
  (hg:w.heap[gl]?=some (.cells #[.slice Av nv cv] 23 (0,0))) (hvs:LvIn w B Av cv (.mk 0 0 vs)) (hin:TmS w S p t) :
  Calls Try.prog 60 #[tmV p t,.int .i64 0,.func (.func 87) #[] #[.pointer (some ⟨gl,0,none⟩)]] w (TmGot w S (rebP (lvF vs) t 0)):=
 reb_Il (lvF vs) (fun W=>W.heap[gl]?=some (.cells #[.slice Av nv cv] 23 (0,0))∧LvIn W B Av cv (.mk 0 0 vs)) S g0 g1 h01 hS gl
  (fun W W' h hs=>⟨(hs gl hgl).trans h.1,LvS.same h.2 fun k hk _=>hs k (Nat.lt_of_lt_of_le hk hB)⟩)
  (fun t p b w _ _ _ hg1 hin hR=>nodl_calls vs gl Av nv cv b S t p w hnv hn50 hR.1 (hR.2.mono (Nat.le_trans hB hg1)) hin)
  _ t (Nat.lt_succ_self _) p 0 w (Int.le_refl _) (by have:=hok.2;omega) hg1 hin ⟨hg,hvs⟩
set_option maxRecDepth 100000 in
set_option maxHeartbeats 4000000 in
theorem instLv_calls (S:Nat→Prop) (g0:Nat) (hS:∀ k,S k→k<g0) (t:Tm) (p:Pl) (Av:Option Addr) (nv cv:Nat) (vs:List Lv) (w:World) (hg0:g0≤w.heap.size) (hnv:nv=vs.length) (hn50:nv≤1000) (hin:TmS w S p t) (hvs:LvIn w w.heap.size Av cv (.mk 0 0 vs)) :
  Calls Try.prog 50 #[tmV p t,.slice Av nv cv] w (TmGot w S (InstLvT t vs)):=by
 obtain ⟨W,hW⟩:∃ W,W=((w.alloc (tmO p t)).alloc (.cells #[.slice Av nv cv] 23 (0,0))).alloc (outK 0 (.slice none 0 0)):=⟨_,rfl⟩
 have hb:Below w.heap.size w W:=by rw [hW];exact below_alloc (below_alloc (below_alloc (Below.refl _ _) _) _) _
 have HX:=Ak (show W.heap[w.heap.size]?=some (tmO p t) by rw [hW];exact blk_alloc (box0 w _ _) _)
 have HX1:=Ak (show W.heap[w.heap.size+1]?=some (.cells #[.slice Av nv cv] 23 (0,0)) by rw [hW];exact blk_alloc (box1 w _ _) _)
 have HX2:=Ak (show W.heap[w.heap.size+1+1]?=some (outK 0 (.slice none 0 0)) by
  rw [hW]
  have:=blk_new ((w.alloc (tmO p t)).alloc (.cells #[.slice Av nv cv] 23 (0,0))) (outK 0 (.slice none 0 0))
  simp only [World.size_alloc] at this
  exact this)
 have HZ:=Ak (show W.heap.size=w.heap.size+3 by rw [hW];simp)
 have HB:=Ak hb
 have HIN:=Ak (TmS.stay hin hS (hb.mono hg0))
 have HVS:=Ak (hvs.stay hb)
 have HSS:=Ak hS
 have HGE:=Ak (great_eq t)
 have HRB:=Ak (show okT t→∀ w1,w.heap.size+3≤w1.heap.size→w1.heap[w.heap.size+1]?=some (.cells #[.slice Av nv cv] 23 (0,0))→LvIn w1 w.heap.size Av cv (.mk 0 0 vs)→TmS w1 S p t→Calls Try.prog 60 #[tmV p t,.int .i64 0,.func (.func 87) #[] #[.pointer (some ⟨w.heap.size+1,0,none⟩)]] w1 (TmGot w1 S (rebP (lvF vs) t 0)) from
  fun hok w1 hz hg hl hi=>reb_instl S g0 (w.heap.size+3) (w.heap.size+1) w.heap.size vs Av nv cv t p w1 hok hnv hn50 (by omega) hS (by omega) (by omega) hz hg hl hi)
 clear hin hvs hb hS hnv hn50
 unfold tmV
 unfold tmO at hW
 go_enter Try.func50,Try.ntmps50
 go_upto_region 1 with (fail)
 rw [← hW]
 clear hW
 by_cases hok:okT t
 ·have HE:=Ak (show InstLvT t vs=rebP (lvF vs) t 0 from if_pos hok)
  have HG:=Ak (show greatB t=false by rw [HGE.out];simp [hok])
  have HCA:=Ak (HRB.out hok)
  obtain ⟨y,hy⟩:∃ y,y=rebP (lvF vs) t 0:=⟨_,rfl⟩
  rw [← hy] at HE HCA
  clear hok HRB hy
  go_wp2_with (first
   | (refine wpList_load_row rfl 28 _ rfl (w.heap.size) rfl 28 _ (0,0) _ HX.out Try.underlying28 rfl (by kernel_rfl) ?_)
   | (refine wpList_load_row rfl 28 _ rfl (w.heap.size) rfl 28 _ (0,0) _ HX3.out Try.underlying28 rfl (by kernel_rfl) ?_)
   | (go_at_call 55;go_must (refine (great_calls t p W (TmS.all HIN.out)).mono ?_;rintro e w2 ⟨rfl,hb⟩;rw [HG.out];have HX3:=Ak ((hb.block _ (blk_lt HX.out)).trans HX.out);have HX13:=Ak ((hb.block _ (blk_lt HX1.out)).trans HX1.out);have HX23:=Ak ((hb.block _ (blk_lt HX2.out)).trans HX2.out);have HB2:=Ak (below_then HB.out HB.out.size hb);have HIN2:=Ak (TmS.stay HIN.out HSS.out (hb.mono (Nat.le_trans hg0 HB.out.size)));have HVS2:=Ak (HVS.out.stay (hb.mono HB.out.size));have HZ2:=Ak (show w.heap.size+3≤w2.heap.size by have:=hb.size;have:=HZ.out;omega);clear hb))
   | (go_at_call 60;go_must (refine (HCA.out w2 HZ2.out HX13.out HVS2.out HIN2.out).mono ?_;rintro e w3 ⟨q9,rfl,ht9,hb3⟩;have HT9:=Ak ht9;have HX24:=Ak ((hb3.block _ (blk_lt HX23.out)).trans HX23.out);have HB3:=Ak (below_then HB2.out HB2.out.size hb3);obtain ⟨r0,r1,r2,r3,r4,r5,r6,r7,f0,f1,f2,f3,f4,f5,f6,f7⟩:=row8c HX24.out;clear ht9 hb3;unfold tmV)))
  refine bodyPost_ret (results_c rfl _ _ (w.heap.size+1+1) 28 #[.int .i64 y.kind,.int .i64 y.num,.string y.name,.int .i64 y.lv.kind,.int .i64 y.lv.num,.slice q9.A y.lv.kids.length q9.c,.slice q9.B y.ls.length q9.d,.slice q9.K y.kids.length q9.e] (0,0) _ rfl (set8 HX24.out) Try.underlying28 rfl (by kernel_rfl)) rfl ?_
  rw [HE.out]
  have hz2:=HZ2.out
  exact tm_retS (g:=w.heap.size+1+1) (m:=w2.heap.size) HT9.out (chg_set8 w3 (w.heap.size+1+1) (.int .i64 y.kind) (.int .i64 y.num) (.string y.name) (.int .i64 y.lv.kind) (.int .i64 y.lv.num) (.slice q9.A y.lv.kids.length q9.c) (.slice q9.B y.ls.length q9.d) (.slice q9.K y.kids.length q9.e)) hg0 (by omega) (by omega) HB3.out HSS.out
 ·have HE:=Ak (show InstLvT t vs=zeroT from if_neg hok)
  have HG:=Ak (show greatB t=true by rw [HGE.out];simp [hok])
  clear hok HRB
  go_wp2_with (first
   | (refine wpList_load_row rfl 28 _ rfl (w.heap.size) rfl 28 _ (0,0) _ HX.out Try.underlying28 rfl (by kernel_rfl) ?_)
   | (go_at_call 55;go_must (refine (great_calls t p W (TmS.all HIN.out)).mono ?_;rintro e w2 ⟨rfl,hb⟩;rw [HG.out];have HX23:=Ak ((hb.block _ (blk_lt HX2.out)).trans HX2.out);have HB2:=Ak (below_then HB.out HB.out.size hb);obtain ⟨r0,r1,r2,r3,r4,r5,r6,r7,f0,f1,f2,f3,f4,f5,f6,f7⟩:=row8c HX23.out;clear hb)))
  refine bodyPost_ret (results_c rfl _ _ (w.heap.size+1+1) 28 #[.int .i64 0,.int .i64 0,.string ⟨#[]⟩,.int .i64 0,.int .i64 0,.slice none 0 0,.slice none 0 0,.slice none 0 0] (0,0) _ rfl (set8 HX23.out) Try.underlying28 rfl (by kernel_rfl)) rfl ?_
  rw [HE.out]
  exact tm_retS (S:=S) (g0:=g0) (y:=zeroT) (q:=plz) (g:=w.heap.size+1+1) (m:=w.heap.size+3) (zeroT_flat _ _) (chg_set8 w2 (w.heap.size+1+1) (.int .i64 0) (.int .i64 0) (.string ⟨#[]⟩) (.int .i64 0) (.int .i64 0) (.slice none 0 0) (.slice none 0 0) (.slice none 0 0)) hg0 (by omega) (by omega) HB2.out HSS.out
end Go.Proofs.Ytdboloabpjmgaaa

namespace Go.Proofs.Ytdboloabpjmgaaa
open Go.RowKit Go.Proofs.YtdboloabpjmgaaaW.PrintWords Go.RegionInvYtdboloabpjmgaaa Go.RegionEYtdboloabpjmgaaa

def InstLvR (t:Tm) (vs:List Lv):Tm:=if okT t then rebP (fun x _=>lvG vs (bareG x)) t 0 else zeroT
theorem instLv_eq (t:Tm) (vs:List Lv):InstLvR t vs=InstLvT t vs:=by
 unfold InstLvR InstLvT
 rw [instLv_reb]
set_option maxRecDepth 100000 in
set_option maxHeartbeats 4000000 in
theorem refInstLv_calls (S:Nat→Prop) (g0:Nat) (hS:∀ k,S k→k<g0) (t:Tm) (p:Pl) (Av:Option Addr) (nv cv:Nat) (vs:List Lv) (w:World) (hg0:g0≤w.heap.size) (hnv:nv=vs.length) (hin:TmS w S p t) (hvs:LvIn w w.heap.size Av cv (.mk 0 0 vs)) :
  Calls Try.prog 51 #[tmV p t,.slice Av nv cv] w (TmGot w S (InstLvT t vs)):=by
 rw [← instLv_eq]
 obtain ⟨W,hW⟩:∃ W,W=(w.alloc (tmO p t)).alloc (outK 0 (.slice none 0 0)):=⟨_,rfl⟩
 have hb:Below w.heap.size w W:=by rw [hW];exact below_alloc (below_alloc (Below.refl _ _) _) _
 have HX:=Ak (show W.heap[w.heap.size]?=some (tmO p t) by rw [hW];exact box0 w _ _)
 have HX2:=Ak (show W.heap[w.heap.size+1]?=some (outK 0 (.slice none 0 0)) by rw [hW];exact box1 w _ _)
 have HZ:=Ak (show W.heap.size=w.heap.size+2 by rw [hW];simp)
 have HB:=Ak hb
 have HIN:=Ak (TmS.stay hin hS (hb.mono hg0))
 have HVS:=Ak (hvs.stay hb)
 have HSS:=Ak hS
 have HRB:=Ak (show okT t→∀ w1,w.heap.size+2≤w1.heap.size→LvIn w1 w1.heap.size Av cv (.mk 0 0 vs)→TmS w1 S p t→Calls Try.prog 66 #[.agg #[.int .i64 2,.int .i64 0,.int .i64 0,.int .i64 0,.int .i64 0,.string ⟨#[]⟩,.int .i64 0,.int .i64 0,.slice none 0 0,.slice none 0 0,.slice none 0 0,.slice Av nv cv],tmV p t,.int .i64 0] w1 (TmGot w1 S (rebP (fun x _=>lvG vs (bareG x)) t 0)) from
  fun hok w1 hz hl hi=>rwgLv_calls S g0 hS t p Av nv cv vs w1 hnv (by have:=hok.2;omega) (by omega) hl hi)
 clear hin hvs hb hS hnv
 unfold tmV
 unfold tmO at hW
 go_enter Try.func51,Try.ntmps51
 go_upto_region 1 with (fail)
 rw [← hW]
 clear hW
 by_cases hok:okT t
 ·have HE:=Ak (show InstLvR t vs=rebP (fun x _=>lvG vs (bareG x)) t 0 from if_pos hok)
  have HG:=Ak (show (!decide (okT t))=false by simp [hok])
  have HCA:=Ak (HRB.out hok)
  obtain ⟨y,hy⟩:∃ y,y=rebP (fun x _=>lvG vs (bareG x)) t 0:=⟨_,rfl⟩
  rw [← hy] at HE HCA
  clear hok HRB hy
  go_wp2_with (first
   | (refine wpList_load_row rfl 28 _ rfl (w.heap.size) rfl 28 _ (0,0) _ HX.out Try.underlying28 rfl (by kernel_rfl) ?_)
   | (refine wpList_load_row rfl 28 _ rfl (w.heap.size) rfl 28 _ (0,0) _ HX3.out Try.underlying28 rfl (by kernel_rfl) ?_)
   | (go_at_call 26;go_must (refine (tooGreat_calls t p W (TmS.all HIN.out)).mono ?_;rintro e w2 ⟨rfl,hb⟩;rw [HG.out];have HX3:=Ak ((hb.block _ (blk_lt HX.out)).trans HX.out);have HX23:=Ak ((hb.block _ (blk_lt HX2.out)).trans HX2.out);have HB2:=Ak (below_then HB.out HB.out.size hb);have HIN2:=Ak (TmS.stay HIN.out HSS.out (hb.mono (Nat.le_trans hg0 HB.out.size)));have HVS2:=Ak ((HVS.out.stay (hb.mono HB.out.size)).mono HB2.out.size);have HZ2:=Ak (show w.heap.size+2≤w2.heap.size by have:=hb.size;have:=HZ.out;omega);clear hb))
   | (go_at_call 66;go_must (refine (HCA.out w2 HZ2.out HVS2.out HIN2.out).mono ?_;rintro e w3 ⟨q9,rfl,ht9,hb3⟩;have HT9:=Ak ht9;have HX24:=Ak ((hb3.block _ (blk_lt HX23.out)).trans HX23.out);have HB3:=Ak (below_then HB2.out HB2.out.size hb3);obtain ⟨r0,r1,r2,r3,r4,r5,r6,r7,f0,f1,f2,f3,f4,f5,f6,f7⟩:=row8c HX24.out;clear ht9 hb3;unfold tmV)))
  refine bodyPost_ret (results_c rfl _ _ (w.heap.size+1) 28 #[.int .i64 y.kind,.int .i64 y.num,.string y.name,.int .i64 y.lv.kind,.int .i64 y.lv.num,.slice q9.A y.lv.kids.length q9.c,.slice q9.B y.ls.length q9.d,.slice q9.K y.kids.length q9.e] (0,0) _ rfl (set8 HX24.out) Try.underlying28 rfl (by kernel_rfl)) rfl ?_
  rw [HE.out]
  have hz2:=HZ2.out
  exact tm_retS (g:=w.heap.size+1) (m:=w2.heap.size) HT9.out (chg_set8 w3 (w.heap.size+1) (.int .i64 y.kind) (.int .i64 y.num) (.string y.name) (.int .i64 y.lv.kind) (.int .i64 y.lv.num) (.slice q9.A y.lv.kids.length q9.c) (.slice q9.B y.ls.length q9.d) (.slice q9.K y.kids.length q9.e)) hg0 (by omega) (by omega) HB3.out HSS.out
 ·have HE:=Ak (show InstLvR t vs=zeroT from if_neg hok)
  have HG:=Ak (show (!decide (okT t))=true by simp [hok])
  clear hok HRB
  go_wp2_with (first
   | (refine wpList_load_row rfl 28 _ rfl (w.heap.size) rfl 28 _ (0,0) _ HX.out Try.underlying28 rfl (by kernel_rfl) ?_)
   | (go_at_call 26;go_must (refine (tooGreat_calls t p W (TmS.all HIN.out)).mono ?_;rintro e w2 ⟨rfl,hb⟩;rw [HG.out];have HX23:=Ak ((hb.block _ (blk_lt HX2.out)).trans HX2.out);have HB2:=Ak (below_then HB.out HB.out.size hb);obtain ⟨r0,r1,r2,r3,r4,r5,r6,r7,f0,f1,f2,f3,f4,f5,f6,f7⟩:=row8c HX23.out;clear hb)))
  refine bodyPost_ret (results_c rfl _ _ (w.heap.size+1) 28 #[.int .i64 0,.int .i64 0,.string ⟨#[]⟩,.int .i64 0,.int .i64 0,.slice none 0 0,.slice none 0 0,.slice none 0 0] (0,0) _ rfl (set8 HX23.out) Try.underlying28 rfl (by kernel_rfl)) rfl ?_
  rw [HE.out]
  exact tm_retS (S:=S) (g0:=g0) (y:=zeroT) (q:=plz) (g:=w.heap.size+1) (m:=w.heap.size+2) (zeroT_flat _ _) (chg_set8 w2 (w.heap.size+1) (.int .i64 0) (.int .i64 0) (.string ⟨#[]⟩) (.int .i64 0) (.int .i64 0) (.slice none 0 0) (.slice none 0 0) (.slice none 0 0)) hg0 (by omega) (by omega) HB2.out HSS.out
end Go.Proofs.Ytdboloabpjmgaaa
