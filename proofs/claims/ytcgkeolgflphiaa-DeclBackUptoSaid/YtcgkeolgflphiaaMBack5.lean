/-
  Merged: LawDK, LvIn, LvsIn, TmIn, Bulk, WSized.
-/
import Derived.Deep.Slices
import Derived.ChangeArms
import Derived.Test.YtcgkeolgflphiaaRows
import Derived.SizedLaws
import Derived.ChangeSlices
import Derived.Test.YtcgkeolgflphiaaMBack4
namespace Go.Proofs.Ytcgkeolgflphiaa
open Go.RowKit Go.Proofs.YtcgkeolgflphiaaW.PrintWords Go.RegionInvYtcgkeolgflphiaa Go.Proofs.YtcgkeolgflphiaaW.PrintMore

theorem mod_len (c:Int) (N:Nat) (h0:0<N) (h1:N≤40000000):∃ m:Nat,wrap64 ((IntKind.u64.wrap c).tmod (N:Int))=m∧m<N:=by
 obtain ⟨m,hm⟩:∃ m,m=IntKind.u64.wrap c:=⟨_,rfl⟩
 have h0':0≤m:=by rw [hm];simp only [IntKind.wrap];exact Int.emod_nonneg _ (by decide)
 have h2:=Int.emod_nonneg m (show (N:Int)≠0 by omega)
 have h3:=Int.emod_lt_of_pos m (show (0:Int)<N by omega)
 rw [← hm,Int.tmod_eq_emod_of_nonneg h0',IntWalk.wrap64_in (m % N) (by omega)]
 exact ⟨(m % N).toNat,by omega,by omega⟩
theorem cut_err {d d7:Dc} {er:Int} {j:Nat} (h:mayD d=0) (hB:Bytes (dcB d)) (hj:j<(dcB d).length) (ht:EndZ d7 er (decR ((dcB d).take j))):er≠0:=by
 cases hR:decR ((dcB d).take j) with
 | ok d'=>exact absurd hR (dec_cut h hB j hj d')
 | error k=>rw [hR] at ht;rw [ht.1];exact ht.2.1
theorem more_err {d d7:Dc} {er:Int} {more:List Int} (h:mayD d=0) (ht:EndZ d7 er (decR (dcB d ++ more))):(er=0→more=[])∧(more=[]→er=0):=by
 have hm:=dec_more h more
 cases hR:decR (dcB d ++ more) with
 | ok d'=>rw [hR] at ht;exact ⟨fun _=>hm.1 ⟨d',hR⟩,fun _=>ht.2⟩
 | error k =>
  rw [hR] at ht
  refine ⟨fun e=>absurd (ht.1.symm.trans e) ht.2.1,fun e=>?_⟩
  obtain ⟨d',hd⟩:=hm.2 e
  rw [hR] at hd;cases hd
theorem cut_to {A:Option Addr} {n c:Nat} (W:World) (k:Nat) (hk:k≤n) (hc:n≤c):(Instr.slice 31 (.slice A n c) none (some (.int .i64 (k:Int))) none).run Try.prog W=.ok (.slice A k c) W:=by
 have h:=run_cut_to (A:=A) (n:=n) (c:=c) W (k:Int) (by omega) (by omega)
 rw [Int.toNat_natCast] at h
 exact h
set_option maxRecDepth 100000 in
set_option maxHeartbeats 16000000 in
theorem declBack_calls (d:Dc) (P:DPl) (cut:Int) (A0:Option Addr) (n0 c0:Nat) (more:List Int) (w:World) (hin:DcIn w w.heap.size P d) (hcut:-9223372036854775808≤cut∧cut≤9223372036854775807) (hr:ReadsInt w .u8 A0 n0 more) (hB:Bytes more) (hl:n0≤1048576) :
  Calls Try.prog 9 #[dcV P d,.int .i64 cut,.slice A0 n0 c0] w fun e w'=>e=.returned (.bool true)∧Below w.heap.size w w':=by
 obtain ⟨hcut1,hcut2⟩:=hcut
 have hb1:=below_alloc (Below.refl w.heap.size w) (dcO P d)
 have HIN:=Ak (DcIn.stay hin hb1)
 have HB1:=Ak hb1
 have HX:=Ak (blk_new w (dcO P d))
 have HR:=Ak hr
 have HN0:=Ak hr.1
 have HBM:=Ak hB
 clear hin hr hB hb1
 unfold dcV
 go_enter Try.func9,Try.ntmps9
 go_upto_region 1 with (fail)
 obtain ⟨g0,hg0⟩:∃ g0,g0=w.heap.size:=⟨_,rfl⟩
 obtain ⟨W0,hW0⟩:∃ W0,W0=w.alloc (dcO P d):=⟨_,rfl⟩
 rw [← hW0] at HB1 HIN HX
 rw [← hW0,← hg0]
 rw [← hg0] at HX
 have HM0:=Ak (DcS.all HIN.out)
 clear hW0 hg0 HIN
 by_cases hmd:mayD d=0
 case neg =>
  obtain ⟨em,hem⟩:∃ em,em=mayD d:=⟨_,rfl⟩
  rw [← hem] at hmd
  have HEM:=Ak hem
  have hne:(em != 0)=true:=by simp [hmd]
  clear hem hmd
  go_wp2_with (first
   | (refine wpList_load_row rfl 30 _ rfl (g0) rfl 30 _ (0,0) _ HX.out Try.underlying30 rfl (by kernel_rfl) ?_)
   | (go_at_call 13;go_must (refine (mayd_calls d P W0 HM0.out).mono ?_;rintro e w1 ⟨rfl,hb⟩;rw [← HEM.out];have HB2:=Ak (below_then HB1.out HB1.out.size hb);clear hb))
   | (go_at_call 15;go_must (refine (awake_calls _).mono ?_;rintro e w8 ⟨rfl,hb8⟩;have HB8:=Ak (below_then HB2.out HB2.out.size hb8);clear hb8)))
  go_ret
  exact ⟨rfl,HB8.out⟩
 have HMD:=Ak hmd
 have HBY:=Ak (dc_by hmd)
 have HEB:=Ak (show encB d=dcB d by unfold encB;rw [if_pos hmd])
 have hlen:=(mayD_ok hmd).2
 have hlen3:=dcB_len3 d
 have HKD:=Ak (show 1≤d.kind∧d.kind≤3 from (mayD_fit hmd).k)
 clear hmd
 obtain ⟨N,hN⟩:∃ N,N=(dcB d).length:=⟨_,rfl⟩
 rw [← hN] at hlen hlen3
 have HN:=Ak hN
 clear hN
 go_upto_region 4 with (first
  | (refine wpList_load_row rfl 30 _ rfl (g0) rfl 30 _ (0,0) _ HX.out Try.underlying30 rfl (by kernel_rfl) ?_)
  | (go_at_call 13;go_must (refine (mayd_calls d P W0 HM0.out).mono ?_;rintro e w1 ⟨rfl,hb⟩;rw [HMD.out];have HX1:=Ak (blk_below HX.out hb);have HM1:=Ak (DcS.all (HM0.out.same fun k _ hk=>hb.block k hk));have HB2:=Ak (below_then HB1.out HB1.out.size hb);clear hb))
  | (refine wpList_load_row rfl 30 _ rfl (g0) rfl 30 _ (0,0) _ HX1.out Try.underlying30 rfl (by kernel_rfl) ?_)
  | (go_at_call 11;go_must (refine (encode_calls d P w1 HM1.out).mono ?_;rintro e w2 ⟨v2,rfl,ho,hb⟩;rw [HMD.out];rw [HEB.out] at ho;obtain ⟨A2,c2,rfl,hr2⟩:=own_reads ho;have hle:=own_cap ho;rw [← HN.out] at hr2 hle ⊢;have HLE:=Ak hle;have HR2:=Ak hr2;have HX2:=Ak (blk_below HX1.out hb);have HM2:=Ak (DcS.all (HM1.out.same fun k _ hk=>hb.block k hk));have HB3:=Ak (below_then HB2.out HB2.out.size hb);clear ho hb hr2 hle)))
 have HBS:=Ak (bs_arg HR2.out HLE.out HBY.out (by omega))
 go_upto_region 5 with (first
  | (go_at_call 21;go_must (refine (decode_calls A2 N c2 (dcB d) _ HBS.out).mono ?_;rintro e w3 ⟨P3,d3,er,rfl,hmem,hb,htk⟩;rw [dec_get HMD.out] at htk;obtain ⟨h3,rfl⟩:=htk;have HD3:=Ak h3;have HMEM:=Ak hmem;have HX3:=Ak (blk_below HX2.out hb);have HM3:=Ak (DcS.all (HM2.out.same fun k _ hk=>hb.block k hk));have HR3:=Ak (HR2.out.below hb);have HB4:=Ak (below_then HB3.out HB3.out.size hb);clear hmem hb h3;simp only [dcV]))
  | (refine wpList_store_row rfl 30 _ _ rfl (w3.heap.size) #[.int .i64 d3.kind,.string d3.nm,.int .i64 d3.vars,.int .i64 d3.ty.kind,.int .i64 d3.ty.num,.string d3.ty.name,.int .i64 d3.ty.lv.kind,.int .i64 d3.ty.lv.num,.slice P3.pt.A d3.ty.lv.kids.length P3.pt.c,.slice P3.pt.B d3.ty.ls.length P3.pt.d,.slice P3.pt.K d3.ty.kids.length P3.pt.e,.int .i64 d3.val.kind,.int .i64 d3.val.num,.string d3.val.name,.int .i64 d3.val.lv.kind,.int .i64 d3.val.lv.num,.slice P3.pv.A d3.val.lv.kids.length P3.pv.c,.slice P3.pv.B d3.val.ls.length P3.pv.d,.slice P3.pv.K d3.val.kids.length P3.pv.e,.int .i64 d3.params,.slice P3.C d3.cs.length P3.e] rfl rfl 30 #[.int .i64 0,.string ⟨#[]⟩,.int .i64 0,.int .i64 0,.int .i64 0,.string ⟨#[]⟩,.int .i64 0,.int .i64 0,.slice none 0 0,.slice none 0 0,.slice none 0 0,.int .i64 0,.int .i64 0,.string ⟨#[]⟩,.int .i64 0,.int .i64 0,.slice none 0 0,.slice none 0 0,.slice none 0 0,.int .i64 0,.slice none 0 0] (blk_new _ _) (by kernel_rfl) rfl (all_one (l:=[.int .i64 d3.kind,.string d3.nm,.int .i64 d3.vars,.int .i64 d3.ty.kind,.int .i64 d3.ty.num,.string d3.ty.name,.int .i64 d3.ty.lv.kind,.int .i64 d3.ty.lv.num,.slice P3.pt.A d3.ty.lv.kids.length P3.pt.c,.slice P3.pt.B d3.ty.ls.length P3.pt.d,.slice P3.pt.K d3.ty.kids.length P3.pt.e,.int .i64 d3.val.kind,.int .i64 d3.val.num,.string d3.val.name,.int .i64 d3.val.lv.kind,.int .i64 d3.val.lv.num,.slice P3.pv.A d3.val.lv.kids.length P3.pv.c,.slice P3.pv.B d3.val.ls.length P3.pv.d,.slice P3.pv.K d3.val.kids.length P3.pv.e,.int .i64 d3.params,.slice P3.C d3.cs.length P3.e]) rfl) ?_))
 have hbx3:=dc_boxed w3 P3 d3
 obtain ⟨W4,hW3⟩:∃ W4,W4=(w3.alloc (.cells #[.int .i64 0,.string ⟨#[]⟩,.int .i64 0,.int .i64 0,.int .i64 0,.string ⟨#[]⟩,.int .i64 0,.int .i64 0,.slice none 0 0,.slice none 0 0,.slice none 0 0,.int .i64 0,.int .i64 0,.string ⟨#[]⟩,.int .i64 0,.int .i64 0,.slice none 0 0,.slice none 0 0,.slice none 0 0,.int .i64 0,.slice none 0 0] 30 (0,0))).setRow w3.heap.size #[.int .i64 d3.kind,.string d3.nm,.int .i64 d3.vars,.int .i64 d3.ty.kind,.int .i64 d3.ty.num,.string d3.ty.name,.int .i64 d3.ty.lv.kind,.int .i64 d3.ty.lv.num,.slice P3.pt.A d3.ty.lv.kids.length P3.pt.c,.slice P3.pt.B d3.ty.ls.length P3.pt.d,.slice P3.pt.K d3.ty.kids.length P3.pt.e,.int .i64 d3.val.kind,.int .i64 d3.val.num,.string d3.val.name,.int .i64 d3.val.lv.kind,.int .i64 d3.val.lv.num,.slice P3.pv.A d3.val.lv.kids.length P3.pv.c,.slice P3.pv.B d3.val.ls.length P3.pv.d,.slice P3.pv.K d3.val.kids.length P3.pv.e,.int .i64 d3.params,.slice P3.C d3.cs.length P3.e]:=⟨_,rfl⟩
 replace hbx3:W4.heap[w3.heap.size]?=some (dcO P3 d3)∧Below w3.heap.size w3 W4:=by rw [hW3];exact hbx3
 rw [← hW3]
 clear hW3
 have HX4:=Ak (blk_below HX3.out hbx3.2)
 have HY4:=Ak hbx3.1
 have HM4:=Ak (DcS.all (HM3.out.same fun k _ hk=>hbx3.2.block k hk))
 have HM43:=Ak (DcS.all (HMEM.out.same fun k _ hk=>hbx3.2.block k hk))
 have HR4:=Ak (HR3.out.below hbx3.2)
 have HB5:=Ak (below_then HB4.out HB4.out.size hbx3.2)
 obtain ⟨g4,hg4⟩:∃ g4,g4=w3.heap.size:=⟨_,rfl⟩
 rw [← hg4] at HY4 ⊢
 clear hbx3 hg4 HX3 HM3 HR3 HMEM HBS HR2 HM2 HX2
 have HSD:=Ak (show sameD d d3=true by rw [HD3.out];exact sameD_can HMD.out)
 have HMD3:=Ak (show mayD d3=0 by rw [HD3.out];exact mayD_can HMD.out)
 have HEB3:=Ak (show encB d3=dcB d by unfold encB;rw [if_pos HMD3.out,HD3.out];exact dcB_can HMD.out HBY.out)
 have hN3:¬ (N:Int)<3:=by omega
 clear hN3
 go_upto_region 5 with (fail)
 refine dk5_region W4 g0 g4 N c2 A2 d d3 P P3 HX4.out HY4.out HM4.out HM43.out HKD.out HSD.out hlen3 ?_
 intro w5 hch
 have HBW:=Ak (show Below W4.heap.size W4 w5 from hch.below (fun _ h=>h.elim False.elim False.elim) (Nat.le_refl _))
 have HY5:=Ak (blk_below HY4.out HBW.out)
 have HM5:=Ak (DcS.all (HM43.out.same fun k _ hk=>HBW.out.block k hk))
 have HR5:=Ak (HR4.out.below HBW.out)
 have HB6:=Ak (below_then HB5.out HB5.out.size HBW.out)
 clear hch HBW HX4 HY4 HM4 HM43 HR4
 go_upto_region 7 with (fail)
 go_upto_region 8 with (first
  | (refine wpList_load_row rfl 30 _ rfl (g4) rfl 30 _ (0,0) _ HY5.out Try.underlying30 rfl (by kernel_rfl) ?_)
  | (go_at_call 11;go_must (refine (encode_calls d3 P3 w5 HM5.out).mono ?_;rintro e w6 ⟨v6,rfl,ho,hb⟩;rw [HMD3.out];rw [HEB3.out] at ho;obtain ⟨A6,c6,rfl,hr6⟩:=own_reads ho;rw [← HN.out] at hr6 ⊢;have HR6:=Ak hr6;have HRB6:=Ak (HR5.out.below hb);have HB7:=Ak (below_then HB6.out HB6.out.size hb);clear ho hb hr6)))
 go_upto_region 9 with (fail)
 obtain ⟨j,hj,hjN⟩:=mod_len cut N (by omega) hlen
 rw [hj]
 have hle2:=HLE.out
 have hct:∀ W,(Instr.slice 31 (.slice A2 N c2) none (some (.int .i64 (j:Int))) none).run Try.prog W=.ok (.slice A2 j c2) W:=fun W=>cut_to W j (by omega) hle2
 have HBJ:=Ak (bs_arg (c:=c2) (HRB6.out.take_ j (by omega)) (by omega) (HBY.out.take j) (by omega))
 go_upto_region 10 with (first
  | (go_at_call 21;go_must (refine (decode_calls A2 j c2 ((dcB d).take j) _ HBJ.out).mono ?_;rintro e w7 ⟨P7,d7,er7,rfl,hmem,hb,htk⟩;have HNE:=Ak (cut_err HMD.out HBY.out (by rw [← HN.out];exact hjN) htk);have HR7:=Ak (HR6.out.below hb);have HRB7:=Ak (HRB6.out.below hb);have HB8:=Ak (below_then HB7.out HB7.out.size hb);clear hmem hb htk;simp only [dcV]))
  | (refine wpList_store_row rfl 30 _ _ rfl (w7.heap.size) #[.int .i64 d7.kind,.string d7.nm,.int .i64 d7.vars,.int .i64 d7.ty.kind,.int .i64 d7.ty.num,.string d7.ty.name,.int .i64 d7.ty.lv.kind,.int .i64 d7.ty.lv.num,.slice P7.pt.A d7.ty.lv.kids.length P7.pt.c,.slice P7.pt.B d7.ty.ls.length P7.pt.d,.slice P7.pt.K d7.ty.kids.length P7.pt.e,.int .i64 d7.val.kind,.int .i64 d7.val.num,.string d7.val.name,.int .i64 d7.val.lv.kind,.int .i64 d7.val.lv.num,.slice P7.pv.A d7.val.lv.kids.length P7.pv.c,.slice P7.pv.B d7.val.ls.length P7.pv.d,.slice P7.pv.K d7.val.kids.length P7.pv.e,.int .i64 d7.params,.slice P7.C d7.cs.length P7.e] rfl rfl 30 #[.int .i64 0,.string ⟨#[]⟩,.int .i64 0,.int .i64 0,.int .i64 0,.string ⟨#[]⟩,.int .i64 0,.int .i64 0,.slice none 0 0,.slice none 0 0,.slice none 0 0,.int .i64 0,.int .i64 0,.string ⟨#[]⟩,.int .i64 0,.int .i64 0,.slice none 0 0,.slice none 0 0,.slice none 0 0,.int .i64 0,.slice none 0 0] (blk_new _ _) (by kernel_rfl) rfl (all_one (l:=[.int .i64 d7.kind,.string d7.nm,.int .i64 d7.vars,.int .i64 d7.ty.kind,.int .i64 d7.ty.num,.string d7.ty.name,.int .i64 d7.ty.lv.kind,.int .i64 d7.ty.lv.num,.slice P7.pt.A d7.ty.lv.kids.length P7.pt.c,.slice P7.pt.B d7.ty.ls.length P7.pt.d,.slice P7.pt.K d7.ty.kids.length P7.pt.e,.int .i64 d7.val.kind,.int .i64 d7.val.num,.string d7.val.name,.int .i64 d7.val.lv.kind,.int .i64 d7.val.lv.num,.slice P7.pv.A d7.val.lv.kids.length P7.pv.c,.slice P7.pv.B d7.val.ls.length P7.pv.d,.slice P7.pv.K d7.val.kids.length P7.pv.e,.int .i64 d7.params,.slice P7.C d7.cs.length P7.e]) rfl) ?_))
 have hbx7:=dc_boxed w7 P7 d7
 obtain ⟨W8,hW7⟩:∃ W8,W8=(w7.alloc (.cells #[.int .i64 0,.string ⟨#[]⟩,.int .i64 0,.int .i64 0,.int .i64 0,.string ⟨#[]⟩,.int .i64 0,.int .i64 0,.slice none 0 0,.slice none 0 0,.slice none 0 0,.int .i64 0,.int .i64 0,.string ⟨#[]⟩,.int .i64 0,.int .i64 0,.slice none 0 0,.slice none 0 0,.slice none 0 0,.int .i64 0,.slice none 0 0] 30 (0,0))).setRow w7.heap.size #[.int .i64 d7.kind,.string d7.nm,.int .i64 d7.vars,.int .i64 d7.ty.kind,.int .i64 d7.ty.num,.string d7.ty.name,.int .i64 d7.ty.lv.kind,.int .i64 d7.ty.lv.num,.slice P7.pt.A d7.ty.lv.kids.length P7.pt.c,.slice P7.pt.B d7.ty.ls.length P7.pt.d,.slice P7.pt.K d7.ty.kids.length P7.pt.e,.int .i64 d7.val.kind,.int .i64 d7.val.num,.string d7.val.name,.int .i64 d7.val.lv.kind,.int .i64 d7.val.lv.num,.slice P7.pv.A d7.val.lv.kids.length P7.pv.c,.slice P7.pv.B d7.val.ls.length P7.pv.d,.slice P7.pv.K d7.val.kids.length P7.pv.e,.int .i64 d7.params,.slice P7.C d7.cs.length P7.e]:=⟨_,rfl⟩
 replace hbx7:W8.heap[w7.heap.size]?=some (dcO P7 d7)∧Below w7.heap.size w7 W8:=by rw [hW7];exact hbx7
 rw [← hW7]
 clear hW7
 have HR8:=Ak (HR7.out.below hbx7.2)
 have HRB8:=Ak (HRB7.out.below hbx7.2)
 have HB9:=Ak (below_then HB8.out HB8.out.size hbx7.2)
 have HRM8:=Ak (HR.out.below HB9.out)
 clear hbx7 HR7 HRB7 HR6 HRB6 HBJ hct
 have hn00:=HN0.out
 have hlm:([] ++ dcB d:List Int).length=N:=by rw [List.nil_append];exact HN.out.symm
 have HLM:=Ak hlm
 clear hn00 hlm
 go_upto_region 11 with (first
  | ((with_reducible refine gate_builtin (b:=.append) (xs:=#[.tmp 68,.tmp 69]) rfl ?_);at_builtin;go_must (refine print_append_row (w0:=W8) W8.heap.size rfl (.tmp 68) (.tmp 69) 31 5 .u8 1 rfl Try.underlying31 infoU8 (by decide) _ [] (dcB d) A2 N c2 rfl rfl (own_empty W8 _ _ (Nat.le_refl _)) (HRB8.out.below ((Below.refl _ _).alloc (Nat.le_refl _) _)) ((Below.refl _ _).alloc (Nat.le_refl _) _) (by simp) (by simp;omega) ?_;intro v9 w9 ho hb _ _;have HO9:=Ak ho;have HBa:=Ak hb;clear ho hb))
  | ((with_reducible refine gate_builtin (b:=.append) (xs:=#[.tmp 70,.tmp 71]) rfl ?_);at_builtin;go_must (refine print_append_row (w0:=W8) W8.heap.size rfl (.tmp 70) (.tmp 71) 31 5 .u8 1 rfl Try.underlying31 infoU8 (by decide) v9 ([] ++ dcB d) more A0 n0 c0 rfl rfl HO9.out (HRM8.out.below HBa.out) HBa.out HBa.out.size (by rw [HLM.out];omega) ?_;intro v10 w10 ho hb _ _;rw [List.nil_append] at ho;obtain ⟨A10,m10,c10,rfl,hm10,hc10,hr10⟩:=OwnB.reads ho;have HM10:=Ak hm10;have HBS10:=Ak (bs_arg hr10 hc10 (HBY.out.append HBM.out) (by have h1:=HN.out;have h2:=HN0.out;rw [hm10,List.length_append];omega));have HR10:=Ak (HR8.out.below hb);have HRB10:=Ak (HRB8.out.below hb);have HB10:=Ak (below_then HB9.out HB9.out.size hb);clear ho hb hr10 hm10 hc10))
  | (go_at_call 21;go_must (refine (decode_calls A10 m10 c10 (dcB d ++ more) _ HBS10.out).mono ?_;rintro e w11 ⟨P11,d11,er11,rfl,hmem,hb,htk⟩;have HEM:=Ak (more_err HMD.out htk);have HR11:=Ak (HR10.out.below hb);have HRB11:=Ak (HRB10.out.below hb);have HB11:=Ak (below_then HB10.out HB10.out.size hb);clear hmem hb htk;simp only [dcV]))
  | (refine wpList_store_row rfl 30 _ _ rfl (w11.heap.size) #[.int .i64 d11.kind,.string d11.nm,.int .i64 d11.vars,.int .i64 d11.ty.kind,.int .i64 d11.ty.num,.string d11.ty.name,.int .i64 d11.ty.lv.kind,.int .i64 d11.ty.lv.num,.slice P11.pt.A d11.ty.lv.kids.length P11.pt.c,.slice P11.pt.B d11.ty.ls.length P11.pt.d,.slice P11.pt.K d11.ty.kids.length P11.pt.e,.int .i64 d11.val.kind,.int .i64 d11.val.num,.string d11.val.name,.int .i64 d11.val.lv.kind,.int .i64 d11.val.lv.num,.slice P11.pv.A d11.val.lv.kids.length P11.pv.c,.slice P11.pv.B d11.val.ls.length P11.pv.d,.slice P11.pv.K d11.val.kids.length P11.pv.e,.int .i64 d11.params,.slice P11.C d11.cs.length P11.e] rfl rfl 30 #[.int .i64 0,.string ⟨#[]⟩,.int .i64 0,.int .i64 0,.int .i64 0,.string ⟨#[]⟩,.int .i64 0,.int .i64 0,.slice none 0 0,.slice none 0 0,.slice none 0 0,.int .i64 0,.int .i64 0,.string ⟨#[]⟩,.int .i64 0,.int .i64 0,.slice none 0 0,.slice none 0 0,.slice none 0 0,.int .i64 0,.slice none 0 0] (blk_new _ _) (by kernel_rfl) rfl (all_one (l:=[.int .i64 d11.kind,.string d11.nm,.int .i64 d11.vars,.int .i64 d11.ty.kind,.int .i64 d11.ty.num,.string d11.ty.name,.int .i64 d11.ty.lv.kind,.int .i64 d11.ty.lv.num,.slice P11.pt.A d11.ty.lv.kids.length P11.pt.c,.slice P11.pt.B d11.ty.ls.length P11.pt.d,.slice P11.pt.K d11.ty.kids.length P11.pt.e,.int .i64 d11.val.kind,.int .i64 d11.val.num,.string d11.val.name,.int .i64 d11.val.lv.kind,.int .i64 d11.val.lv.num,.slice P11.pv.A d11.val.lv.kids.length P11.pv.c,.slice P11.pv.B d11.val.ls.length P11.pv.d,.slice P11.pv.K d11.val.kids.length P11.pv.e,.int .i64 d11.params,.slice P11.C d11.cs.length P11.e]) rfl) ?_))
 have hbx11:=dc_boxed w11 P11 d11
 obtain ⟨W12,hW11⟩:∃ W12,W12=(w11.alloc (.cells #[.int .i64 0,.string ⟨#[]⟩,.int .i64 0,.int .i64 0,.int .i64 0,.string ⟨#[]⟩,.int .i64 0,.int .i64 0,.slice none 0 0,.slice none 0 0,.slice none 0 0,.int .i64 0,.int .i64 0,.string ⟨#[]⟩,.int .i64 0,.int .i64 0,.slice none 0 0,.slice none 0 0,.slice none 0 0,.int .i64 0,.slice none 0 0] 30 (0,0))).setRow w11.heap.size #[.int .i64 d11.kind,.string d11.nm,.int .i64 d11.vars,.int .i64 d11.ty.kind,.int .i64 d11.ty.num,.string d11.ty.name,.int .i64 d11.ty.lv.kind,.int .i64 d11.ty.lv.num,.slice P11.pt.A d11.ty.lv.kids.length P11.pt.c,.slice P11.pt.B d11.ty.ls.length P11.pt.d,.slice P11.pt.K d11.ty.kids.length P11.pt.e,.int .i64 d11.val.kind,.int .i64 d11.val.num,.string d11.val.name,.int .i64 d11.val.lv.kind,.int .i64 d11.val.lv.num,.slice P11.pv.A d11.val.lv.kids.length P11.pv.c,.slice P11.pv.B d11.val.ls.length P11.pv.d,.slice P11.pv.K d11.val.kids.length P11.pv.e,.int .i64 d11.params,.slice P11.C d11.cs.length P11.e]:=⟨_,rfl⟩
 replace hbx11:W12.heap[w11.heap.size]?=some (dcO P11 d11)∧Below w11.heap.size w11 W12:=by rw [hW11];exact hbx11
 rw [← hW11]
 clear hW11
 have HR12:=Ak (HR11.out.below hbx11.2)
 have HRB12:=Ak (HRB11.out.below hbx11.2)
 have HB12:=Ak (below_then HB11.out HB11.out.size hbx11.2)
 clear hbx11
 have h3:=string_of_reads Try.underlying31 Try.underlying5 Try.underlying9 (c:=c6) HR12.out
 have h5:=string_of_reads Try.underlying31 Try.underlying5 Try.underlying9 (c:=c2) HRB12.out
 have hne7:(er7 != 0)=true:=by simp [HNE.out]
 have hh:(er11 == 0)=((n0:Int) == 0):=by
  have h1:=HEM.out
  have h2:=HN0.out
  by_cases hm:more=[]
  ·rw [h1.2 hm,← h2,hm];rfl
  ·have hp:=List.length_pos_iff.2 hm
   rw [show ((n0:Int) == 0)=false by simp;omega]
   simp only [beq_eq_false_iff_ne,ne_eq]
   exact fun hh=>hm (h1.1 hh)
 obtain ⟨bb,hbb⟩:∃ bb,bb=((n0:Int) == 0):=⟨_,rfl⟩
 rw [← hbb] at hh
 have hbb2:=hbb.symm
 clear hbb
 go_wp2_with (go_at_call 15;go_must (refine (awake_calls _).mono ?_;rintro e w14 ⟨rfl,hb14⟩;have HB14:=Ak (below_then HB12.out HB12.out.size hb14);clear hb14))
 go_ret
 exact ⟨rfl,HB14.out⟩
end Go.Proofs.Ytcgkeolgflphiaa

namespace Go.Proofs.Ytcgkeolgflphiaa
open Go.RowKit Go.Proofs.YtcgkeolgflphiaaW.PrintWords Go.RegionInvYtcgkeolgflphiaa Go.ChangeShapes Go.WideShapes Go.Deep

instance:Inhabited Lv:=⟨.mk 0 0 []⟩
set_option maxRecDepth 100000 in
theorem lv_open {H:Type} {enc:TypeId × Value→H} {W:World} {base:Nat} {sp:Nat→Bool} {held:Bool} (F:Nat):∀ (fuel:Nat),fuel≤F→∀ (cs:List Value) (x:DataW H × List MemPlace),
  DataW.trod enc Try.prog W base sp held fuel 24 cs=some x→∃ (l:Lv) (A:Option Addr) (c:Nat),cs=[.int .i64 l.kind,.int .i64 l.num,.slice A l.kids.length c]∧LvS W (fun _=>True) A c l∧(Lit.int .i64 l.kind).wf=true∧(Lit.int .i64 l.num).wf=true:=by
 induction F with
 | zero =>
  intro fuel hF cs x h
  obtain ⟨xs,n,hn,_⟩:=DataW.trod_struct Try.underlying24 h
  omega
 | succ F ih =>
  intro fuel hF cs x h
  obtain ⟨xs,n,hn,hx,hl,hxl,hf⟩:=DataW.trod_struct Try.underlying24 h
  have hl3:cs.length=3:=by rw [hl];kernel_rfl
  match xs,hxl,cs,hl3 with
  | [y0,y1,y2],_,[v0,v1,v2],_ =>
   have g0:DataW.trod enc Try.prog W base sp held n 3 [v0]=some y0:=hf 0 _ rfl
   have g1:DataW.trod enc Try.prog W base sp held n 3 [v1]=some y1:=hf 1 _ rfl
   have g2:DataW.trod enc Try.prog W base sp held n 22 [v2]=some y2:=hf 2 _ rfl
   obtain ⟨k,e0,_,w0⟩:=DataW.trod_int Try.underlying3 g0
   obtain ⟨m,e1,_,w1⟩:=DataW.trod_int Try.underlying3 g1
   obtain rfl:v0=.int .i64 k:=by simpa using e0
   obtain rfl:v1=.int .i64 m:=by simpa using e1
   rcases DataW.trod_slice Try.underlying22 g2 with ⟨e2,_⟩ | ⟨a,len,cap,elems,rest,n',hn',e2,_,_,hle,hm,hlen,hel,_,_⟩
   ·obtain rfl:v2=.slice none 0 0:=by simpa using e2
    exact ⟨.mk k m [],none,0,rfl,.mk (fun _=>none) (fun _=>0) (by simp) (by omega) (fun i x hx=>by simp at hx) (fun i x hx=>by simp at hx),w0,w1⟩
   ·obtain rfl:v2=.slice (some a) len cap:=by simpa using e2
    have hc3:Try.prog.cellsOf 24=3:=by kernel_rfl
    rw [hc3] at hel
    have each:∀ i,i<len→∃ q:Lv × Option Addr × Nat,W.cells? base (a.add (i * 3)) 3=some [.int .i64 q.1.kind,.int .i64 q.1.num,.slice q.2.1 q.1.kids.length q.2.2]∧LvS W (fun _=>True) q.2.1 q.2.2 q.1:=by
     intro i hi
     have hq:=hel i hi
     rw [List.getElem?_eq_getElem (by omega)] at hq
     obtain ⟨cs',h1,h2⟩:=Option.bind_eq_some_iff.1 hq
     obtain ⟨l,A,c,rfl,h3,_⟩:=ih n' (by omega) cs' _ h2
     exact ⟨(l,A,c),h1,h3⟩
    obtain ⟨q,hq⟩:=choose_lt each
    have hcell:∀ i,i<len→∀ j,j<3→W.cell? ((a.add (i * 3)).add j)=([.int .i64 (q i).1.kind,.int .i64 (q i).1.num,.slice (q i).2.1 (q i).1.kids.length (q i).2.2]:List Value)[j]?:=fun i hi j hj=>(World.cells?_some (hq i hi).1).2.2 j hj
    have hget:∀ (i:Nat) (x:Lv),((List.range len).map fun i=>(q i).1)[i]?=some x→i<len∧x=(q i).1:=by
     intro i x hx
     have hi:i<len:=by
      rcases Nat.lt_or_ge i len with h | h
      ·exact h
      ·rw [List.getElem?_eq_none (by simpa using h)] at hx;cases hx
     rw [List.getElem?_map,List.getElem?_range hi] at hx
     exact ⟨hi,(Option.some.inj hx).symm⟩
    refine ⟨.mk k m ((List.range len).map fun i=>(q i).1),some a,cap,by simp [Lv.kind,Lv.num,Lv.kids],.mk (fun i=>(q i).2.1) (fun i=>(q i).2.2) (by simpa using hle) (by simp only [maxLen] at hm;omega) (fun i x hx=>?_) (fun i x hx=>?_),w0,w1⟩
    ·obtain ⟨hi,rfl⟩:=hget i x hx
     have hsp:a.spot=none:=by
      have h0:=hcell 0 (by omega) 0 (by omega)
      simp only [Nat.zero_mul,Addr.add,if_true] at h0
      cases hs:a.spot with
      | none=>rfl
      | some z=>simp [World.cell?,hs] at h0;split at h0 <;> simp at h0
     obtain ⟨b,o,z⟩:=a
     obtain rfl:z=none:=hsp
     have c0:=hcell i hi 0 (by omega)
     have c1:=hcell i hi 1 (by omega)
     have c2:=hcell i hi 2 (by omega)
     simp only [add_flat] at c0 c1 c2
     exact ⟨_,rfl,trivial,rfl,by rw [add_flat];exact c0,by rw [add_flat];exact c1,by rw [add_flat];exact c2⟩
    ·obtain ⟨hi,rfl⟩:=hget i x hx
     exact (hq i hi).2
end Go.Proofs.Ytcgkeolgflphiaa

namespace Go.Proofs.Ytcgkeolgflphiaa
open Go.RowKit Go.Proofs.YtcgkeolgflphiaaW.PrintWords Go.RegionInvYtcgkeolgflphiaa Go.ChangeShapes Go.WideShapes Go.Deep

set_option maxRecDepth 100000 in
theorem lvs_open {H:Type} {enc:TypeId × Value→H} {W:World} {base:Nat} {sp:Nat→Bool} {held:Bool} {fuel:Nat} {v2:Value} {y2:DataW H × List MemPlace} (g2:DataW.trod enc Try.prog W base sp held fuel 22 [v2]=some y2) :
  ∃ (vs:List Lv) (A:Option Addr) (c:Nat),v2=.slice A vs.length c∧LvS W (fun _=>True) A c (.mk 0 0 vs):=by
 rcases DataW.trod_slice Try.underlying22 g2 with ⟨e2,_⟩ | ⟨a,len,cap,elems,rest,n',hn',e2,_,_,hle,hm,hlen,hel,_,_⟩
 ·obtain rfl:v2=.slice none 0 0:=by simpa using e2
  exact ⟨[],none,0,rfl,.mk (fun _=>none) (fun _=>0) (by simp) (by omega) (fun i x hx=>by simp at hx) (fun i x hx=>by simp at hx)⟩
 ·obtain rfl:v2=.slice (some a) len cap:=by simpa using e2
  have hc3:Try.prog.cellsOf 24=3:=by kernel_rfl
  rw [hc3] at hel
  have each:∀ i,i<len→∃ q:Lv × Option Addr × Nat,W.cells? base (a.add (i * 3)) 3=some [.int .i64 q.1.kind,.int .i64 q.1.num,.slice q.2.1 q.1.kids.length q.2.2]∧LvS W (fun _=>True) q.2.1 q.2.2 q.1:=by
   intro i hi
   have hq:=hel i hi
   rw [List.getElem?_eq_getElem (by omega)] at hq
   obtain ⟨cs',h1,h2⟩:=Option.bind_eq_some_iff.1 hq
   obtain ⟨l,A,c,rfl,h3,_⟩:=lv_open n' n' (Nat.le_refl _) cs' _ h2
   exact ⟨(l,A,c),h1,h3⟩
  obtain ⟨q,hq⟩:=choose_lt each
  have hcell:∀ i,i<len→∀ j,j<3→W.cell? ((a.add (i * 3)).add j)=([.int .i64 (q i).1.kind,.int .i64 (q i).1.num,.slice (q i).2.1 (q i).1.kids.length (q i).2.2]:List Value)[j]?:=fun i hi j hj=>(World.cells?_some (hq i hi).1).2.2 j hj
  have hget:∀ (i:Nat) (x:Lv),((List.range len).map fun i=>(q i).1)[i]?=some x→i<len∧x=(q i).1:=by
   intro i x hx
   have hi:i<len:=by
    rcases Nat.lt_or_ge i len with h | h
    ·exact h
    ·rw [List.getElem?_eq_none (by simpa using h)] at hx;cases hx
   rw [List.getElem?_map,List.getElem?_range hi] at hx
   exact ⟨hi,(Option.some.inj hx).symm⟩
  refine ⟨(List.range len).map fun i=>(q i).1,some a,cap,by simp,.mk (fun i=>(q i).2.1) (fun i=>(q i).2.2) (by simpa using hle) (by simp only [maxLen] at hm;omega) (fun i x hx=>?_) (fun i x hx=>?_)⟩
  ·obtain ⟨hi,rfl⟩:=hget i x hx
   have hsp:a.spot=none:=by
    have h0:=hcell 0 (by omega) 0 (by omega)
    simp only [Nat.zero_mul,Addr.add,if_true] at h0
    cases hs:a.spot with
    | none=>rfl
    | some z=>simp [World.cell?,hs] at h0;split at h0 <;> simp at h0
   obtain ⟨b,o,z⟩:=a
   obtain rfl:z=none:=hsp
   have c0:=hcell i hi 0 (by omega)
   have c1:=hcell i hi 1 (by omega)
   have c2:=hcell i hi 2 (by omega)
   simp only [add_flat] at c0 c1 c2
   exact ⟨_,rfl,trivial,rfl,by rw [add_flat];exact c0,by rw [add_flat];exact c1,by rw [add_flat];exact c2⟩
  ·obtain ⟨hi,rfl⟩:=hget i x hx
   exact (hq i hi).2
end Go.Proofs.Ytcgkeolgflphiaa

namespace Go.Proofs.Ytcgkeolgflphiaa
open Go.RowKit Go.Proofs.YtcgkeolgflphiaaW.PrintWords Go.RegionInvYtcgkeolgflphiaa Go.ChangeShapes Go.WideShapes Go.Deep

section
variable {H:Type} {enc:TypeId × Value→H} {W:World} {base:Nat} {sp:Nat→Bool} {held:Bool}
def Sized (t:TypeId) (d:DataW H):Prop:=(DataW.weights Try.prog t d).all (·≤reachBytes)=true
theorem all_at {t:TypeId}:∀ {l:List (DataW H)},(DataW.weightsAll Try.prog t l).all (·≤reachBytes)=true→∀ (i:Nat) (d:DataW H),l[i]?=some d→Sized t d
 | [],_,i,d,h=>by simp at h
 | x :: r,hw,i,d,h=>by
  rw [DataW.weightsAll,List.all_append,Bool.and_eq_true] at hw
  cases i with
  | zero=>simp at h;subst h;exact hw.1
  | succ j=>exact all_at hw.2 j d (by simpa using h)
theorem each_at:∀ {ts:List TypeId} {l:List (DataW H)},(DataW.weightsEach Try.prog ts l).all (·≤reachBytes)=true→∀ (i:Nat) (t:TypeId) (d:DataW H),ts[i]?=some t→l[i]?=some d→Sized t d
 | [],l,_,i,t,d,h,_=>by simp at h
 | _ :: _,[],_,i,t,d,_,h=>by simp at h
 | s :: ts,x :: r,hw,i,t,d,ht,hd=>by
  rw [DataW.weightsEach,List.all_append,Bool.and_eq_true] at hw
  cases i with
  | zero=>simp at ht hd;subst ht;subst hd;exact hw.1
  | succ j=>exact each_at hw.2 j t d (by simpa using ht) (by simpa using hd)
theorem sized_agg {t:TypeId} {fs:Array Field} {ps:List (DataW H)} (hu:Try.prog.underlying t=some (.struct fs)) (h:Sized t (.agg ps)):∀ (i:Nat) (f:Field) (d:DataW H),fs[i]?=some f→ps[i]?=some d→Sized f.type d:=by
 unfold Sized at h
 rw [DataW.weights,hu] at h
 intro i f d hf hd
 exact each_at h i f.type d (by simp [hf]) hd
theorem sized_slices {t e:TypeId} {es rs:List (DataW H)} (hu:Try.prog.underlying t=some (.slice e)) (h:Sized t (.slice es rs)):(es.length+rs.length) * Try.prog.bytesOf e≤140737488351232∧∀ (i:Nat) (d:DataW H),es[i]?=some d→Sized e d:=by
 unfold Sized at h
 rw [DataW.weights,hu] at h
 simp only [List.all_cons,List.all_append,Bool.and_eq_true,decide_eq_true_eq] at h
 exact ⟨h.1,fun i d hd=>all_at h.2.1 i d hd⟩
theorem sized_str {t:TypeId} {s:List UInt8} (h:Sized (H:=H) t (.lit (.string s))):s.length≤140737488351232:=by
 unfold Sized at h
 rw [DataW.weights] at h
 have h':s.length≤reachBytes:=by simpa using h
 exact h'
theorem lvs_len {fuel:Nat} {v:Value} {y:DataW H × List MemPlace} (g:DataW.trod enc Try.prog W base sp held fuel 22 [v]=some y) (hw:Sized 22 y.1) {A:Option Addr} {n c:Nat} (he:v=.slice A n c):n * 40≤140737488355328:=by
 subst he
 rcases DataW.trod_slice Try.underlying22 g with ⟨e2,_⟩ | ⟨a,len,cap,elems,rest,n',hn',e2,hy,_,hle,hm,hlen,hel,_,_⟩
 ·have:n=0:=by simp at e2;exact e2.2.1
  omega
 ·have:n=len:=by simp at e2;exact e2.2.1
  subst this
  subst hy
  have h:=(sized_slices Try.underlying22 hw).1
  rw [show Try.prog.bytesOf 24=40 by kernel_rfl] at h
  simp only [List.length_map] at h
  have:=Nat.le_mul_of_pos_right elems.length (show 0<40 by decide)
  have h2:n * 40≤(elems.length+rest.length) * 40:=Nat.mul_le_mul_right _ (by omega)
  omega
theorem plain_addr {a:Addr} {v:Value} (h:W.cell? a=some v):a.spot=none:=by
 cases hs:a.spot with
 | none=>rfl
 | some z=>simp [World.cell?,hs] at h;split at h <;> simp at h
theorem int_range {n:Int} (h:(Lit.int .i64 n).wf=true):-9223372036854775808≤n∧n≤9223372036854775807:=by simpa [Lit.wf,IntKind.min,IntKind.max,IntKind.signed,IntKind.bits] using h
set_option maxRecDepth 100000 in
set_option maxHeartbeats 4000000 in
theorem tm_open (F:Nat):∀ (fuel:Nat),fuel≤F→∀ (cs:List Value) (x:DataW H × List MemPlace),DataW.trod enc Try.prog W base sp held fuel 27 cs=some x→Sized 27 x.1 →
  ∃ (t:Tm) (p:Pl),cs=tmC p t∧TmS W (fun _=>True) p t:=by
 induction F with
 | zero =>
  intro fuel hF cs x h
  obtain ⟨xs,n,hn,_⟩:=DataW.trod_struct Try.underlying27 h
  omega
 | succ F ih =>
  intro fuel hF cs x h hw
  obtain ⟨xs,n,hn,hx,hl,hxl,hf⟩:=DataW.trod_struct Try.underlying27 h
  have hl8:cs.length=8:=by rw [hl];kernel_rfl
  match xs,hxl,cs,hl8 with
  | [y0,y1,y2,y3,y4,y5],_,[v0,v1,v2,v3,v4,v5,v6,v7],_ =>
   subst hx
   have g0:DataW.trod enc Try.prog W base sp held n 3 [v0]=some y0:=hf 0 _ rfl
   have g1:DataW.trod enc Try.prog W base sp held n 3 [v1]=some y1:=hf 1 _ rfl
   have g2:DataW.trod enc Try.prog W base sp held n 9 [v2]=some y2:=hf 2 _ rfl
   have g3:DataW.trod enc Try.prog W base sp held n 24 [v3,v4,v5]=some y3:=hf 3 _ rfl
   have g4:DataW.trod enc Try.prog W base sp held n 22 [v6]=some y4:=hf 4 _ rfl
   have g5:DataW.trod enc Try.prog W base sp held n 25 [v7]=some y5:=hf 5 _ rfl
   have z2:Sized 9 y2.1:=sized_agg Try.underlying27 hw 2 _ _ rfl rfl
   have z4:Sized 22 y4.1:=sized_agg Try.underlying27 hw 4 _ _ rfl rfl
   have z5:Sized 25 y5.1:=sized_agg Try.underlying27 hw 5 _ _ rfl rfl
   obtain ⟨k,e0,_,w0⟩:=DataW.trod_int Try.underlying3 g0
   obtain ⟨m,e1,_,w1⟩:=DataW.trod_int Try.underlying3 g1
   obtain ⟨s,e2,e2',_⟩:=DataW.trod_string Try.underlying9 g2
   obtain rfl:v0=.int .i64 k:=by simpa using e0
   obtain rfl:v1=.int .i64 m:=by simpa using e1
   obtain rfl:v2=.string s:=by simpa using e2
   have hs:s.size≤140737488355328:=by
    rw [e2'] at z2
    have:=sized_str z2
    simp at this
    have e:s.size=s.data.size:=rfl
    omega
   obtain ⟨l,A,c,e3,hlv,_,_⟩:=lv_open n n (Nat.le_refl _) _ _ g3
   obtain ⟨ls,B,d,rfl,hls⟩:=lvs_open g4
   have hll:=lvs_len g4 z4 rfl
   obtain ⟨rfl,rfl,rfl⟩:v3=.int .i64 l.kind∧v4=.int .i64 l.num∧v5=.slice A l.kids.length c:=by simpa using e3
   have hfit:Fit m s ls:=⟨int_range w1,hs,hll⟩
   rcases DataW.trod_slice Try.underlying25 g5 with ⟨e5,_⟩ | ⟨a,len,cap,elems,rest,n',hn',e5,hy,_,hle,hm,hlen,hel,_,_⟩
   ·obtain rfl:v7=.slice none 0 0:=by simpa using e5
    exact ⟨.mk k m s l ls [],⟨A,c,B,d,none,0⟩,rfl,.mk (fun _=>default) hlv hls (by simp) (by simp) hfit (fun i x hx=>by simp at hx) (fun i x hx=>by simp at hx)⟩
   ·obtain rfl:v7=.slice (some a) len cap:=by simpa using e5
    subst hy
    have hz:=(sized_slices Try.underlying25 z5).2
    have hc8:Try.prog.cellsOf 27=8:=by kernel_rfl
    rw [hc8] at hel
    have each:∀ i,i<len→∃ q:Tm × Pl,W.cells? base (a.add (i * 8)) 8=some (tmC q.2 q.1)∧TmS W (fun _=>True) q.2 q.1:=by
     intro i hi
     have hq:=hel i hi
     rw [List.getElem?_eq_getElem (by omega)] at hq
     obtain ⟨cs',h1,h2⟩:=Option.bind_eq_some_iff.1 hq
     obtain ⟨t,p,rfl,h3⟩:=ih n' (by omega) cs' _ h2 (hz i _ (by rw [List.getElem?_map,List.getElem?_eq_getElem (by omega)];rfl))
     exact ⟨(t,p),h1,h3⟩
    obtain ⟨q,hq⟩:=choose_lt each
    have hcell:∀ i,i<len→∀ j,j<8→W.cell? ((a.add (i * 8)).add j)=(tmC (q i).2 (q i).1)[j]?:=fun i hi j hj=>(World.cells?_some (hq i hi).1).2.2 j hj
    have hget:∀ (i:Nat) (x:Tm),((List.range len).map fun i=>(q i).1)[i]?=some x→i<len∧x=(q i).1:=by
     intro i x hx
     have hi:i<len:=by
      rcases Nat.lt_or_ge i len with h | h
      ·exact h
      ·rw [List.getElem?_eq_none (by simpa using h)] at hx;cases hx
     rw [List.getElem?_map,List.getElem?_range hi] at hx
     exact ⟨hi,(Option.some.inj hx).symm⟩
    refine ⟨.mk k m s l ls ((List.range len).map fun i=>(q i).1),⟨A,c,B,d,some a,cap⟩,by simp [tmC,Tm.kind,Tm.num,Tm.name,Tm.lv,Tm.ls,Tm.kids],.mk (fun i=>(q i).2) hlv hls (by simpa using hle) (by simp only [maxLen] at hm;exact hm) hfit (fun i x hx=>?_) (fun i x hx=>?_)⟩
    ·obtain ⟨hi,rfl⟩:=hget i x hx
     have h0:=hcell 0 (by omega) 0 (by omega)
     simp only [Nat.zero_mul,Addr.add,if_true] at h0
     have hsp:a.spot=none:=plain_addr (h0.trans (by rfl))
     obtain ⟨b,o,z⟩:=a
     obtain rfl:z=none:=hsp
     refine ⟨b,o,rfl,trivial,fun j v hv=>?_⟩
     have hj:j<8:=by
      rcases Nat.lt_or_ge j 8 with h | h
      ·exact h
      ·rw [List.getElem?_eq_none (by rw [tmC_len];exact h)] at hv;cases hv
     have c0:=hcell i hi j hj
     simp only [add_flat] at c0
     rw [c0]
     exact hv
    ·obtain ⟨hi,rfl⟩:=hget i x hx
     exact (hq i hi).2
set_option maxRecDepth 100000 in
set_option maxHeartbeats 4000000 in
theorem ct_open (fuel:Nat) (cs:List Value) (x:DataW H × List MemPlace) (h:DataW.trod enc Try.prog W base sp held fuel 63 cs=some x) (hw:Sized 63 x.1) :
  ∃ (c:Ct) (q:Pl),cs=ctC q c∧TmS W (fun _=>True) q c.ty∧c.nm.size≤140737488355328:=by
 obtain ⟨xs,n,hn,hx,hl,hxl,hf⟩:=DataW.trod_struct Try.underlying63 h
 have hl9:cs.length=9:=by rw [hl];kernel_rfl
 match xs,hxl,cs,hl9 with
 | [y0,y1],_,[v0,v1,v2,v3,v4,v5,v6,v7,v8],_ =>
  subst hx
  have g0:DataW.trod enc Try.prog W base sp held n 9 [v0]=some y0:=hf 0 _ rfl
  have g1:DataW.trod enc Try.prog W base sp held n 27 [v1,v2,v3,v4,v5,v6,v7,v8]=some y1:=hf 1 _ rfl
  have z0:Sized 9 y0.1:=sized_agg Try.underlying63 hw 0 _ _ rfl rfl
  have z1:Sized 27 y1.1:=sized_agg Try.underlying63 hw 1 _ _ rfl rfl
  obtain ⟨s,e2,e2',_⟩:=DataW.trod_string Try.underlying9 g0
  obtain rfl:v0=.string s:=by simpa using e2
  have hs:s.size≤140737488355328:=by
   rw [e2'] at z0
   have:=sized_str z0
   simp at this
   have e:s.size=s.data.size:=rfl
   omega
  obtain ⟨t,p,he,ht⟩:=tm_open n n (Nat.le_refl _) _ _ g1 z1
  refine ⟨⟨s,t⟩,p,?_,ht,hs⟩
  unfold tmC at he
  unfold ctC
  rw [he]
instance:Inhabited Ct:=⟨⟨ByteArray.empty,default⟩⟩
set_option maxRecDepth 100000 in
set_option maxHeartbeats 4000000 in
theorem cts_open {fuel:Nat} {v:Value} {y:DataW H × List MemPlace} (g:DataW.trod enc Try.prog W base sp held fuel 28 [v]=some y) (hw:Sized 28 y.1) :
  ∃ (ks:List Ct) (C:Option Addr) (e:Nat) (q:Nat→Pl),v=.slice C ks.length e∧(ks.length≤e∧e≤9223372036854775807)∧∀ (i:Nat) (c:Ct),ks[i]?=some c→CtAt W (fun _=>True) C i (q i) c∧TmS W (fun _=>True) (q i) c.ty∧c.nm.size≤140737488355328:=by
 rcases DataW.trod_slice Try.underlying28 g with ⟨e5,_⟩ | ⟨a,len,cap,elems,rest,n',hn',e5,hy,_,hle,hm,hlen,hel,_,_⟩
 ·obtain rfl:v=.slice none 0 0:=by simpa using e5
  exact ⟨[],none,0,fun _=>default,rfl,by simp,fun i x hx=>by simp at hx⟩
 ·obtain rfl:v=.slice (some a) len cap:=by simpa using e5
  subst hy
  have hz:=(sized_slices Try.underlying28 hw).2
  have hc9:Try.prog.cellsOf 63=9:=by kernel_rfl
  rw [hc9] at hel
  have each:∀ i,i<len→∃ q:Ct × Pl,W.cells? base (a.add (i * 9)) 9=some (ctC q.2 q.1)∧TmS W (fun _=>True) q.2 q.1.ty∧q.1.nm.size≤140737488355328:=by
   intro i hi
   have hq:=hel i hi
   rw [List.getElem?_eq_getElem (by omega)] at hq
   obtain ⟨cs',h1,h2⟩:=Option.bind_eq_some_iff.1 hq
   obtain ⟨t,p,rfl,h3⟩:=ct_open n' cs' _ h2 (hz i _ (by rw [List.getElem?_map,List.getElem?_eq_getElem (by omega)];rfl))
   exact ⟨(t,p),h1,h3⟩
  obtain ⟨q,hq⟩:=choose_lt each
  have hcell:∀ i,i<len→∀ j,j<9→W.cell? ((a.add (i * 9)).add j)=(ctC (q i).2 (q i).1)[j]?:=fun i hi j hj=>(World.cells?_some (hq i hi).1).2.2 j hj
  refine ⟨(List.range len).map fun i=>(q i).1,some a,cap,fun i=>(q i).2,by simp,⟨by simpa using hle,by simp only [maxLen] at hm;exact hm⟩,fun i x hx=>?_⟩
  have hi:i<len:=by
   rcases Nat.lt_or_ge i len with h | h
   ·exact h
   ·rw [List.getElem?_eq_none (by simpa using h)] at hx;cases hx
  rw [List.getElem?_map,List.getElem?_range hi] at hx
  obtain rfl:(q i).1=x:=Option.some.inj hx
  refine ⟨?_,(hq i hi).2⟩
  have h0:=hcell 0 (by omega) 0 (by omega)
  simp only [Nat.zero_mul,Addr.add,if_true] at h0
  have hsp:a.spot=none:=plain_addr (h0.trans (by rfl))
  obtain ⟨b,o,z⟩:=a
  obtain rfl:z=none:=hsp
  refine ⟨b,o,rfl,trivial,fun j v hv=>?_⟩
  have hj:j<9:=by
   rcases Nat.lt_or_ge j 9 with h | h
   ·exact h
   ·rw [List.getElem?_eq_none (by exact h)] at hv;cases hv
  have c0:=hcell i hi j hj
  simp only [add_flat] at c0
  rw [c0]
  exact hv
set_option maxRecDepth 100000 in
set_option maxHeartbeats 8000000 in
theorem dc_open (fuel:Nat) (cs:List Value) (x:DataW H × List MemPlace) (h:DataW.trod enc Try.prog W base sp held fuel 30 cs=some x) (hw:Sized 30 x.1) :
  ∃ (d:Dc) (P:DPl),cs=dcC P d∧DcS W (fun _=>True) P d∧(Lit.int .i64 d.vars).wf=true:=by
 obtain ⟨xs,n,hn,hx,hl,hxl,hf⟩:=DataW.trod_struct Try.underlying30 h
 have hl21:cs.length=21:=by rw [hl];kernel_rfl
 match xs,hxl,cs,hl21 with
 | [y0,y1,y2,y3,y4,y5,y6],_,[v0,v1,v2,v3,v4,v5,v6,v7,v8,v9,v10,v11,v12,v13,v14,v15,v16,v17,v18,v19,v20],_ =>
  subst hx
  have g0:DataW.trod enc Try.prog W base sp held n 3 [v0]=some y0:=hf 0 _ rfl
  have g1:DataW.trod enc Try.prog W base sp held n 9 [v1]=some y1:=hf 1 _ rfl
  have g2:DataW.trod enc Try.prog W base sp held n 3 [v2]=some y2:=hf 2 _ rfl
  have g3:DataW.trod enc Try.prog W base sp held n 27 [v3,v4,v5,v6,v7,v8,v9,v10]=some y3:=hf 3 _ rfl
  have g4:DataW.trod enc Try.prog W base sp held n 27 [v11,v12,v13,v14,v15,v16,v17,v18]=some y4:=hf 4 _ rfl
  have g5:DataW.trod enc Try.prog W base sp held n 3 [v19]=some y5:=hf 5 _ rfl
  have g6:DataW.trod enc Try.prog W base sp held n 28 [v20]=some y6:=hf 6 _ rfl
  have z1:Sized 9 y1.1:=sized_agg Try.underlying30 hw 1 _ _ rfl rfl
  have z3:Sized 27 y3.1:=sized_agg Try.underlying30 hw 3 _ _ rfl rfl
  have z4:Sized 27 y4.1:=sized_agg Try.underlying30 hw 4 _ _ rfl rfl
  have z6:Sized 28 y6.1:=sized_agg Try.underlying30 hw 6 _ _ rfl rfl
  obtain ⟨k,e0,_,w0⟩:=DataW.trod_int Try.underlying3 g0
  obtain ⟨s,e2,e2',_⟩:=DataW.trod_string Try.underlying9 g1
  obtain ⟨vs,e1,_,w1⟩:=DataW.trod_int Try.underlying3 g2
  obtain ⟨ps,e5,_,w5⟩:=DataW.trod_int Try.underlying3 g5
  obtain rfl:v0=.int .i64 k:=by simpa using e0
  obtain rfl:v1=.string s:=by simpa using e2
  obtain rfl:v2=.int .i64 vs:=by simpa using e1
  obtain rfl:v19=.int .i64 ps:=by simpa using e5
  have hs:s.size≤140737488355328:=by
   rw [e2'] at z1
   have:=sized_str z1
   simp at this
   have e:s.size=s.data.size:=rfl
   omega
  obtain ⟨t,p,he,ht⟩:=tm_open n n (Nat.le_refl _) _ _ g3 z3
  obtain ⟨t2,p2,he2,ht2⟩:=tm_open n n (Nat.le_refl _) _ _ g4 z4
  obtain ⟨ks,C,e,q,rfl,hlen,hct⟩:=cts_open g6 z6
  refine ⟨⟨k,s,vs,t,t2,ps,ks⟩,⟨p,p2,C,e,q⟩,?_,⟨ht,ht2,hlen,hs,hct⟩,w1⟩
  unfold dcC
  rw [← he,← he2]
  rfl
set_option maxRecDepth 100000 in
theorem dc_in {v:Value} {d:DataW H} {ps:List MemPlace} {r:Reach} {b0:Nat} (hv:Value.okWide Try.prog W r b0 30 v) (h:DataW.Trod enc Try.prog W base sp held 30 v d ps) (hw:Sized 30 d) :
  ∃ (d:Dc) (P:DPl),v=dcV P d∧DcS W (fun _=>True) P d:=by
 obtain ⟨cs,rfl,hcs⟩:=okWide_struct Try.underlying30 hv
 obtain ⟨fuel,hf⟩:=h
 obtain ⟨t,p,he,ht,_⟩:=dc_open fuel _ _ hf hw
 refine ⟨t,p,?_,ht⟩
 unfold dcV
 congr 1
 apply Array.toList_inj.1
 simpa [Value.cells,dcC,tmC] using he
end
end Go.Proofs.Ytcgkeolgflphiaa

namespace Go.Proofs.Ytcgkeolgflphiaa.bulks

theorem one_le {H:Type} (d:DataW H):1≤Rows.uptoBulk d:=by
 cases d with
 | lit l=>cases l <;> simp [Rows.uptoBulk]
 | nil=>simp [Rows.uptoBulk]
 | ptr d=>simp [Rows.uptoBulk]
 | slice elems spare=>simp [Rows.uptoBulk]
 | agg parts=>simp [Rows.uptoBulk]
 | iface t d=>simp [Rows.uptoBulk]
 | map entries=>simp [Rows.uptoBulk]
 | held h=>simp [Rows.uptoBulk]

theorem length_le {H:Type} (l:List (DataW H)):l.length≤Rows.uptoBulkAll l:=by
 induction l with
 | nil=>simp [Rows.uptoBulkAll]
 | cons x r ih=>have:=one_le x;simp only [Rows.uptoBulkAll,List.length_cons];omega

theorem slice_le {H:Type} (elems spare:List (DataW H)):elems.length+spare.length+1≤Rows.uptoBulk (.slice elems spare):=by
 have h1:=length_le elems
 have h2:=length_le spare
 simp only [Rows.uptoBulk]
 omega
theorem bound {H:Type} {l:List (DataW H)} (hk:Rows.uptoSmall H l=true):Rows.uptoBulkAll l≤1048576:=by
 simpa [Rows.uptoSmall] using hk

open Go.ChangeShapes Go.WideShapes in
theorem ints_len {H:Type} {enc:TypeId × Value→H} {P:Program} {W:World} {base:Nat} {spare:Nat→Bool} {held:Bool} {t e:TypeId} {k:IntKind} {a:Option Addr} {len cap:Nat} {d:DataW H} {ps:List MemPlace}
  (hu:P.underlying t=some (.slice e)) (he:P.underlying e=some (.int k)) (hc:P.cellsOf e=1)
  (h:DataW.Trod enc P W base spare held t (.slice a len cap) d ps):len≤Rows.uptoBulk d:=by
 obtain ⟨fuel,hf⟩:=h
 rcases open_ints hu he hc hf with ⟨hcs,_⟩ | ⟨x,l,c,zs,hcs,_,hl,_,hz,hx,_,_⟩
 ·simp [Value.cells] at hcs
  obtain ⟨rfl,rfl,rfl⟩:=hcs
  simp
 ·simp [Value.cells] at hcs
  obtain ⟨rfl,rfl,rfl⟩:=hcs
  obtain ⟨hx,_⟩:=Prod.mk.inj hx
  subst hx
  have hl2:len≤zs.length:=by
   rw [hz]
   split
   ·exact hl
   ·exact Nat.le_refl _
  have h1:=slice_le (lits (H:=H) k (zs.take len)) (lits k (zs.drop len))
  have h2:(lits (H:=H) k (zs.take len)).length=len:=by simp [lits];omega
  omega
theorem all_append {H:Type} {l:List (DataW H)} (hk:Rows.uptoSmall H (l ++ [])=true):Rows.uptoBulkAll l≤1048576:=by
 have:=bound hk
 rwa [List.append_nil] at this
end Go.Proofs.Ytcgkeolgflphiaa.bulks

namespace Go.Proofs.YtcgkeolgflphiaaW.PrintWords
open Go.ChangeShapes Go.WideShapes
theorem sized_ints {H:Type} {enc:TypeId × Value→H} {P:Program} {W:World} {base:Nat} {spare:Nat→Bool} {held:Bool} {t e:TypeId} {k:IntKind} {a:Option Addr} {len cap:Nat} {d:DataW H} {ps:List MemPlace} {ts:List TypeId} {ds:List (DataW H)} {j:Nat}
  (hsz:(DataW.weightsEach P ts ds).all (·≤reachBytes)=true) (ht:ts[j]?=some t) (hd:ds[j]?=some d) (hu:P.underlying t=some (.slice e)) (he:P.underlying e=some (.int k)) (hc:P.cellsOf e=1) {B:Nat} (hB:P.bytesOf e=B)
  (h:DataW.Trod enc P W base spare held t (.slice a len cap) d ps):len * B≤140737488351232:=by
 obtain ⟨fuel,hf⟩:=h
 rcases open_ints hu he hc hf with ⟨hcs,_⟩ | ⟨x,l,c,zs,hcs,_,hl,_,hz,hx,_,_⟩
 ·simp [Value.cells] at hcs
  obtain ⟨rfl,rfl,rfl⟩:=hcs
  simp
 ·simp [Value.cells] at hcs
  obtain ⟨rfl,rfl,rfl⟩:=hcs
  obtain ⟨hx,_⟩:=Prod.mk.inj hx
  subst hx
  have z:=sized_slice hsz ht hd hu
  rw [hB] at z
  have hl2:len≤zs.length:=by
   rw [hz]
   split
   ·exact hl
   ·exact Nat.le_refl _
  have h1:(lits (H:=H) k (zs.take len)).length+(lits (H:=H) k (zs.drop len)).length=zs.length:=by
   simp [lits]
   omega
  rw [h1] at z
  exact Nat.le_trans (Nat.mul_le_mul_right _ hl2) z
end Go.Proofs.YtcgkeolgflphiaaW.PrintWords
