/-
  Merged: LifS, InsS, TwoB, TmX, RLf, EnK, RSz, Ends, EndR, RwR, EndW, Rwk, Db, Men, EnU, NeqB, SeR, NrR, Sim, SmR.
-/
import Derived.Deep.AppendLies
import Derived.Test.YtdboloabpjmgaaaMDoubles2
/-! LifS -/
namespace Go.Proofs.Ytdboloabpjmgaaa
open Go.RowKit Go.Proofs.YtdboloabpjmgaaaW.PrintWords Go.RegionInvYtdboloabpjmgaaa Go.RegionEYtdboloabpjmgaaa

set_option maxRecDepth 100000 in
set_option maxHeartbeats 1000000 in
theorem lift1S_calls (S : Nat → Prop) (g0 g1 gf gb : Nat) (hS : ∀ k, S k → k < g0) (fr by_ : Int) (t : Tm) (p : Pl) (b : Int) (w : World) (h01 : g0 ≤ g1) (hgf : gf < g1) (hgb : gb < g1) (hg1 : g1 ≤ w.heap.size) (hb0 : 0 ≤ b) (hb1 : b ≤ 1000000) (hf0 : 0 ≤ fr) (hby : -1048576 ≤ by_ ∧ by_ ≤ 1048576) (hin : TmS w S p t) (hR : RepLi gf gb fr by_ w) :
    Calls Try.prog 97 #[tmV p t, .int .i64 b, .pointer (some ⟨gf, 0, none⟩), .pointer (some ⟨gb, 0, none⟩)] w (TmGot w S (liftF fr by_ t b)) := by
  have hg0 : g0 ≤ w.heap.size := Nat.le_trans h01 hg1
  have hnr := hin.fit.1
  obtain ⟨hn0, hn1⟩ := hnr
  obtain ⟨hby0, hby1⟩ := hby
  have HR := Aside0.mk hR
  obtain ⟨W, hW⟩ : ∃ W, W = (w.alloc (tmO p t)).alloc (outK 0 (.slice none 0 0)) := ⟨_, rfl⟩
  have hb : Below w.heap.size w W := by rw [hW]; exact below_alloc (below_alloc (Below.refl _ _) _) _
  have HX := Aside0.mk (show W.heap[w.heap.size]? = some (tmO p t) by rw [hW]; exact box0 w _ _)
  have HX1 := Aside0.mk (show W.heap[w.heap.size + 1]? = some (outK 0 (.slice none 0 0)) by rw [hW]; exact box1 w _ _)
  have HZ := Aside0.mk (show W.heap.size = w.heap.size + 1 + 1 by rw [hW]; simp)
  have HB := Aside0.mk hb
  have HIN := Aside0.mk (TmS.stay hin hS (hb.mono hg0))
  have HSS := Aside0.mk hS
  clear hS
  obtain ⟨y, hy⟩ : ∃ y, y = nodeP t := ⟨_, rfl⟩
  have HY := Aside0.mk hy
  obtain ⟨z, hz⟩ : ∃ z, z = liftF fr by_ t b := ⟨_, rfl⟩
  have HZZ := Aside0.mk hz
  rw [← hz]
  clear hin hb hy hz hR
  unfold tmV
  unfold tmO at hW
  go_enter Try.func97, Try.ntmps97
  go_upto_region 1 with (fail)
  rw [← hW]
  clear hW
  obtain ⟨tk, htk⟩ : ∃ x, t.kind = x := ⟨_, rfl⟩
  obtain ⟨tn, htn⟩ : ∃ x, t.num = x := ⟨_, rfl⟩
  by_cases k1 : t.kind = 1
  · have HYV := Aside0.mk (show y = varT t.num by rw [HY.out]; exact nodeP_var k1)
    have HZV := Aside0.mk (show z = varT (liftN fr by_ t.num b) by rw [HZZ.out]; exact liftF_var k1)
    have e1 : (t.kind != 1) = false := by simp [k1]
    clear htk htn k1
    go_upto_block 0 with (first
      | (refine wpList_load_row rfl 28 _ rfl (w.heap.size) rfl 28 _ (0, 0) _ HX.out Try.underlying28 rfl (by kernel_rfl) ?_)
      | (go_at_call 63; go_must (refine (node_calls S t p W HIN.out).mono ?_; rw [← HY.out]; rintro e w3 ⟨q9, rfl, ht9, hb3⟩; have HT9 := Aside0.mk ht9; have HT9Z := Aside0.mk (TmS.mono (S' := fun k => (S k ∨ W.heap.size ≤ k) ∧ k < w3.heap.size) ht9 fun k h hz => ⟨h, hz⟩); have HX3 := Aside0.mk ((hb3.block _ (blk_lt HX.out)).trans HX.out); have HX13 := Aside0.mk ((hb3.block _ (blk_lt HX1.out)).trans HX1.out); have HB3 := Aside0.mk (below_then HB.out HB.out.size hb3); have HZ3 := Aside0.mk (show w.heap.size + 1 + 1 ≤ w3.heap.size by have := hb3.size; have := HZ.out; omega); clear ht9 hb3; unfold tmV)))
    obtain ⟨W4, hW4⟩ : ∃ W4, W4 = w3.alloc (tmO q9 y) := ⟨_, rfl⟩
    have hb4 : Below w3.heap.size w3 W4 := by rw [hW4]; exact below_alloc (Below.refl _ _) _
    have hO4 : W4.heap[w3.heap.size]? = some (tmO q9 y) := by rw [hW4]; exact blk_new _ _
    have hz3 := HZ3.out
    have hz0 := HB3.out.size
    have HX4 := Aside0.mk ((hb4.block _ (by omega)).trans HX3.out)
    have hX14 := (hb4.block _ (show w.heap.size + 1 < w3.heap.size by omega)).trans HX13.out
    have HX14 := Aside0.mk hX14
    have HT4 := Aside0.mk (HT9.out.later hb4)
    have HO4 := Aside0.mk hO4
    have HB4 := Aside0.mk (below_then HB3.out HB3.out.size hb4)
    have hzo := blk_lt hO4
    have HBW4 := Aside0.mk hb4
    have hgf := (hb4.block gf (by omega)).trans ((HB3.out.block gf (by omega)).trans HR.out.fr)
    have hgb := (hb4.block gb (by omega)).trans ((HB3.out.block gb (by omega)).trans HR.out.by_)
    have k1c : W4.cell? ⟨gf, 0, none⟩ = some (.int .i64 fr) := by rw [cell_of_row _ _ _ _ _ _ hgf]; rfl
    have k2c : W4.cell? ⟨gb, 0, none⟩ = some (.int .i64 by_) := by rw [cell_of_row _ _ _ _ _ _ hgb]; rfl
    obtain ⟨c0, c1, c2, c3, c4, c5, c6, c7⟩ := row8 HX4.out
    obtain ⟨r0, r1, r2, r3, r4, r5, r6, r7, f0, f1, f2, f3, f4, f5, f6, f7⟩ := row8c hX14
    have fo := blk_frozen hO4 1
    obtain ⟨o0, o1, o2, o3, o4, o5, o6, o7⟩ := row8 hO4
    unfold tmO at hW4
    rw [← hW4]
    clear hW4 hb4 hO4 hX14 hgf hgb
    by_cases hlo : t.num < b
    · obtain rfl : y = z := by rw [HYV.out, HZV.out, liftN_lo (.inl hlo)]
      go_wp2_with (refine wpList_load_row rfl 28 _ rfl (w3.heap.size) rfl 28 _ (0, 0) _ HO4.out Try.underlying28 rfl (by kernel_rfl) ?_)
      refine bodyPost_ret (results_c rfl _ _ (w.heap.size + 1) 28 #[.int .i64 y.kind, .int .i64 y.num, .string y.name, .int .i64 y.lv.kind, .int .i64 y.lv.num, .slice q9.A y.lv.kids.length q9.c, .slice q9.B y.ls.length q9.d, .slice q9.K y.kids.length q9.e] (0, 0) _ rfl (set8 HX14.out) Try.underlying28 rfl (by kernel_rfl)) rfl ?_
      exact tm_retS (g := w.heap.size + 1) HT4.out (chg_set8 W4 (w.heap.size + 1) (.int .i64 y.kind) (.int .i64 y.num) (.string y.name) (.int .i64 y.lv.kind) (.int .i64 y.lv.num) (.slice q9.A y.lv.kids.length q9.c) (.slice q9.B y.ls.length q9.d) (.slice q9.K y.kids.length q9.e)) hg0 (by omega) (by have := HZ.out; omega) HB4.out HSS.out
    · by_cases hlo2 : t.num - b < fr
      · obtain rfl : y = z := by rw [HYV.out, HZV.out, liftN_lo (.inr hlo2)]
        go_wp2_with (refine wpList_load_row rfl 28 _ rfl (w3.heap.size) rfl 28 _ (0, 0) _ HO4.out Try.underlying28 rfl (by kernel_rfl) ?_)
        refine bodyPost_ret (results_c rfl _ _ (w.heap.size + 1) 28 #[.int .i64 y.kind, .int .i64 y.num, .string y.name, .int .i64 y.lv.kind, .int .i64 y.lv.num, .slice q9.A y.lv.kids.length q9.c, .slice q9.B y.ls.length q9.d, .slice q9.K y.kids.length q9.e] (0, 0) _ rfl (set8 HX14.out) Try.underlying28 rfl (by kernel_rfl)) rfl ?_
        exact tm_retS (g := w.heap.size + 1) HT4.out (chg_set8 W4 (w.heap.size + 1) (.int .i64 y.kind) (.int .i64 y.num) (.string y.name) (.int .i64 y.lv.kind) (.int .i64 y.lv.num) (.slice q9.A y.lv.kids.length q9.c) (.slice q9.B y.ls.length q9.d) (.slice q9.K y.kids.length q9.e)) hg0 (by omega) (by have := HZ.out; omega) HB4.out HSS.out
      · have hno : ¬ (t.num < b ∨ t.num - b < fr) := fun h => h.elim hlo hlo2
        by_cases hpos : 0 < by_
        · by_cases hm : t.num ≤ 9223372036854775807 - by_
          · go_upto_region 6 with (fail)
            obtain ⟨W5, hW5⟩ : ∃ W5, W5 = W4.setCell ⟨w3.heap.size, 1, none⟩ (.int .i64 (t.num + by_)) := ⟨_, rfl⟩
            have hc5 := chg_set W4 w3.heap.size 1 (.int .i64 (t.num + by_))
            have hO5 := blk_put HO4.out 1 (.int .i64 (t.num + by_)) rfl
            rw [← hW5] at hc5 hO5 ⊢
            clear hW5
            have HZE := Aside0.mk (show z = varT (t.num + by_) by rw [HZV.out]; congr 1; rw [liftN_up hno hpos]; omega)
            have HO5 := Aside0.mk (show W5.heap[w3.heap.size]? = some (tmO q9 z) by rw [hO5, HZE.out, HYV.out]; rfl)
            have hX15 := (hc5.block (w.heap.size + 1) (by omega) (by omega)).trans HX14.out
            have HX15 := Aside0.mk hX15
            have HT5 := Aside0.mk (show TmS W5 (fun k => S k ∨ W.heap.size ≤ k) q9 z by
              have h := HT9Z.out
              rw [HYV.out] at h
              rw [HZE.out]
              exact ((TmS.renum (m := t.num + by_) h (by omega)).same fun k hk hz => (hc5.block k (by omega) (by omega)).trans (HBW4.out.block k hk.2)).mono fun k hk _ => hk.1)
            have HB5 := Aside0.mk (Chg.trans_below HB4.out hc5 (fun k h => by omega) HB4.out.size)
            obtain ⟨s0, s1, s2, s3, s4, s5, s6, s7, h0, h1, h2, h3, h4, h5, h6, h7⟩ := row8c hX15
            clear hc5 hO5 hX15 r0 r1 r2 r3 r4 r5 r6 r7 f0 f1 f2 f3 f4 f5 f6 f7 o0 o1 o2 o3 o4 o5 o6 o7 c0 c1 c2 c3 c4 c5 c6 c7 k1c k2c
            go_wp2_with (refine wpList_load_row rfl 28 _ rfl (w3.heap.size) rfl 28 _ (0, 0) _ HO5.out Try.underlying28 rfl (by kernel_rfl) ?_)
            refine bodyPost_ret (results_c rfl _ _ (w.heap.size + 1) 28 #[.int .i64 z.kind, .int .i64 z.num, .string z.name, .int .i64 z.lv.kind, .int .i64 z.lv.num, .slice q9.A z.lv.kids.length q9.c, .slice q9.B z.ls.length q9.d, .slice q9.K z.kids.length q9.e] (0, 0) _ rfl (set8 HX15.out) Try.underlying28 rfl (by kernel_rfl)) rfl ?_
            exact tm_retS (g := w.heap.size + 1) HT5.out (chg_set8 W5 (w.heap.size + 1) (.int .i64 z.kind) (.int .i64 z.num) (.string z.name) (.int .i64 z.lv.kind) (.int .i64 z.lv.num) (.slice q9.A z.lv.kids.length q9.c) (.slice q9.B z.ls.length q9.d) (.slice q9.K z.kids.length q9.e)) hg0 (by omega) (by have := HZ.out; omega) HB5.out HSS.out
          · have hm2 : ¬ t.num ≤ 9223372036854775807 - by_ := hm
            go_upto_region 6 with (fail)
            obtain ⟨W5, hW5⟩ : ∃ W5, W5 = W4.setCell ⟨w3.heap.size, 1, none⟩ (.int .i64 (9223372036854775807)) := ⟨_, rfl⟩
            have hc5 := chg_set W4 w3.heap.size 1 (.int .i64 (9223372036854775807))
            have hO5 := blk_put HO4.out 1 (.int .i64 (9223372036854775807)) rfl
            rw [← hW5] at hc5 hO5 ⊢
            clear hW5
            have HZE := Aside0.mk (show z = varT (9223372036854775807) by rw [HZV.out]; congr 1; rw [liftN_up hno hpos]; omega)
            have HO5 := Aside0.mk (show W5.heap[w3.heap.size]? = some (tmO q9 z) by rw [hO5, HZE.out, HYV.out]; rfl)
            have hX15 := (hc5.block (w.heap.size + 1) (by omega) (by omega)).trans HX14.out
            have HX15 := Aside0.mk hX15
            have HT5 := Aside0.mk (show TmS W5 (fun k => S k ∨ W.heap.size ≤ k) q9 z by
              have h := HT9Z.out
              rw [HYV.out] at h
              rw [HZE.out]
              exact ((TmS.renum (m := 9223372036854775807) h (by omega)).same fun k hk hz => (hc5.block k (by omega) (by omega)).trans (HBW4.out.block k hk.2)).mono fun k hk _ => hk.1)
            have HB5 := Aside0.mk (Chg.trans_below HB4.out hc5 (fun k h => by omega) HB4.out.size)
            obtain ⟨s0, s1, s2, s3, s4, s5, s6, s7, h0, h1, h2, h3, h4, h5, h6, h7⟩ := row8c hX15
            clear hc5 hO5 hX15 r0 r1 r2 r3 r4 r5 r6 r7 f0 f1 f2 f3 f4 f5 f6 f7 o0 o1 o2 o3 o4 o5 o6 o7 c0 c1 c2 c3 c4 c5 c6 c7 k1c k2c
            go_wp2_with (refine wpList_load_row rfl 28 _ rfl (w3.heap.size) rfl 28 _ (0, 0) _ HO5.out Try.underlying28 rfl (by kernel_rfl) ?_)
            refine bodyPost_ret (results_c rfl _ _ (w.heap.size + 1) 28 #[.int .i64 z.kind, .int .i64 z.num, .string z.name, .int .i64 z.lv.kind, .int .i64 z.lv.num, .slice q9.A z.lv.kids.length q9.c, .slice q9.B z.ls.length q9.d, .slice q9.K z.kids.length q9.e] (0, 0) _ rfl (set8 HX15.out) Try.underlying28 rfl (by kernel_rfl)) rfl ?_
            exact tm_retS (g := w.heap.size + 1) HT5.out (chg_set8 W5 (w.heap.size + 1) (.int .i64 z.kind) (.int .i64 z.num) (.string z.name) (.int .i64 z.lv.kind) (.int .i64 z.lv.num) (.slice q9.A z.lv.kids.length q9.c) (.slice q9.B z.ls.length q9.d) (.slice q9.K z.kids.length q9.e)) hg0 (by omega) (by have := HZ.out; omega) HB5.out HSS.out
        · by_cases hm : b < t.num + by_
          · go_upto_region 6 with (fail)
            obtain ⟨W5, hW5⟩ : ∃ W5, W5 = W4.setCell ⟨w3.heap.size, 1, none⟩ (.int .i64 (t.num + by_)) := ⟨_, rfl⟩
            have hc5 := chg_set W4 w3.heap.size 1 (.int .i64 (t.num + by_))
            have hO5 := blk_put HO4.out 1 (.int .i64 (t.num + by_)) rfl
            rw [← hW5] at hc5 hO5 ⊢
            clear hW5
            have HZE := Aside0.mk (show z = varT (t.num + by_) by rw [HZV.out]; congr 1; rw [liftN_dn hno hpos]; omega)
            have HO5 := Aside0.mk (show W5.heap[w3.heap.size]? = some (tmO q9 z) by rw [hO5, HZE.out, HYV.out]; rfl)
            have hX15 := (hc5.block (w.heap.size + 1) (by omega) (by omega)).trans HX14.out
            have HX15 := Aside0.mk hX15
            have HT5 := Aside0.mk (show TmS W5 (fun k => S k ∨ W.heap.size ≤ k) q9 z by
              have h := HT9Z.out
              rw [HYV.out] at h
              rw [HZE.out]
              exact ((TmS.renum (m := t.num + by_) h (by omega)).same fun k hk hz => (hc5.block k (by omega) (by omega)).trans (HBW4.out.block k hk.2)).mono fun k hk _ => hk.1)
            have HB5 := Aside0.mk (Chg.trans_below HB4.out hc5 (fun k h => by omega) HB4.out.size)
            obtain ⟨s0, s1, s2, s3, s4, s5, s6, s7, h0, h1, h2, h3, h4, h5, h6, h7⟩ := row8c hX15
            clear hc5 hO5 hX15 r0 r1 r2 r3 r4 r5 r6 r7 f0 f1 f2 f3 f4 f5 f6 f7 o0 o1 o2 o3 o4 o5 o6 o7 c0 c1 c2 c3 c4 c5 c6 c7 k1c k2c
            go_wp2_with (refine wpList_load_row rfl 28 _ rfl (w3.heap.size) rfl 28 _ (0, 0) _ HO5.out Try.underlying28 rfl (by kernel_rfl) ?_)
            refine bodyPost_ret (results_c rfl _ _ (w.heap.size + 1) 28 #[.int .i64 z.kind, .int .i64 z.num, .string z.name, .int .i64 z.lv.kind, .int .i64 z.lv.num, .slice q9.A z.lv.kids.length q9.c, .slice q9.B z.ls.length q9.d, .slice q9.K z.kids.length q9.e] (0, 0) _ rfl (set8 HX15.out) Try.underlying28 rfl (by kernel_rfl)) rfl ?_
            exact tm_retS (g := w.heap.size + 1) HT5.out (chg_set8 W5 (w.heap.size + 1) (.int .i64 z.kind) (.int .i64 z.num) (.string z.name) (.int .i64 z.lv.kind) (.int .i64 z.lv.num) (.slice q9.A z.lv.kids.length q9.c) (.slice q9.B z.ls.length q9.d) (.slice q9.K z.kids.length q9.e)) hg0 (by omega) (by have := HZ.out; omega) HB5.out HSS.out
          · have hm2 : ¬ b < t.num + by_ := hm
            go_upto_region 6 with (fail)
            obtain ⟨W5, hW5⟩ : ∃ W5, W5 = W4.setCell ⟨w3.heap.size, 1, none⟩ (.int .i64 (b)) := ⟨_, rfl⟩
            have hc5 := chg_set W4 w3.heap.size 1 (.int .i64 (b))
            have hO5 := blk_put HO4.out 1 (.int .i64 (b)) rfl
            rw [← hW5] at hc5 hO5 ⊢
            clear hW5
            have HZE := Aside0.mk (show z = varT (b) by rw [HZV.out]; congr 1; rw [liftN_dn hno hpos]; omega)
            have HO5 := Aside0.mk (show W5.heap[w3.heap.size]? = some (tmO q9 z) by rw [hO5, HZE.out, HYV.out]; rfl)
            have hX15 := (hc5.block (w.heap.size + 1) (by omega) (by omega)).trans HX14.out
            have HX15 := Aside0.mk hX15
            have HT5 := Aside0.mk (show TmS W5 (fun k => S k ∨ W.heap.size ≤ k) q9 z by
              have h := HT9Z.out
              rw [HYV.out] at h
              rw [HZE.out]
              exact ((TmS.renum (m := b) h (by omega)).same fun k hk hz => (hc5.block k (by omega) (by omega)).trans (HBW4.out.block k hk.2)).mono fun k hk _ => hk.1)
            have HB5 := Aside0.mk (Chg.trans_below HB4.out hc5 (fun k h => by omega) HB4.out.size)
            obtain ⟨s0, s1, s2, s3, s4, s5, s6, s7, h0, h1, h2, h3, h4, h5, h6, h7⟩ := row8c hX15
            clear hc5 hO5 hX15 r0 r1 r2 r3 r4 r5 r6 r7 f0 f1 f2 f3 f4 f5 f6 f7 o0 o1 o2 o3 o4 o5 o6 o7 c0 c1 c2 c3 c4 c5 c6 c7 k1c k2c
            go_wp2_with (refine wpList_load_row rfl 28 _ rfl (w3.heap.size) rfl 28 _ (0, 0) _ HO5.out Try.underlying28 rfl (by kernel_rfl) ?_)
            refine bodyPost_ret (results_c rfl _ _ (w.heap.size + 1) 28 #[.int .i64 z.kind, .int .i64 z.num, .string z.name, .int .i64 z.lv.kind, .int .i64 z.lv.num, .slice q9.A z.lv.kids.length q9.c, .slice q9.B z.ls.length q9.d, .slice q9.K z.kids.length q9.e] (0, 0) _ rfl (set8 HX15.out) Try.underlying28 rfl (by kernel_rfl)) rfl ?_
            exact tm_retS (g := w.heap.size + 1) HT5.out (chg_set8 W5 (w.heap.size + 1) (.int .i64 z.kind) (.int .i64 z.num) (.string z.name) (.int .i64 z.lv.kind) (.int .i64 z.lv.num) (.slice q9.A z.lv.kids.length q9.c) (.slice q9.B z.ls.length q9.d) (.slice q9.K z.kids.length q9.e)) hg0 (by omega) (by have := HZ.out; omega) HB5.out HSS.out
  · have HZV := Aside0.mk (show z = y by rw [HZZ.out, HY.out]; exact liftF_no k1)
    have e1 : (t.kind != 1) = true := by simp [k1]
    clear htk htn k1
    go_upto_block 0 with (first
      | (refine wpList_load_row rfl 28 _ rfl (w.heap.size) rfl 28 _ (0, 0) _ HX.out Try.underlying28 rfl (by kernel_rfl) ?_)
      | (go_at_call 63; go_must (refine (node_calls S t p W HIN.out).mono ?_; rw [← HY.out]; rintro e w3 ⟨q9, rfl, ht9, hb3⟩; have HT9 := Aside0.mk ht9; have HT9Z := Aside0.mk (TmS.mono (S' := fun k => (S k ∨ W.heap.size ≤ k) ∧ k < w3.heap.size) ht9 fun k h hz => ⟨h, hz⟩); have HX3 := Aside0.mk ((hb3.block _ (blk_lt HX.out)).trans HX.out); have HX13 := Aside0.mk ((hb3.block _ (blk_lt HX1.out)).trans HX1.out); have HB3 := Aside0.mk (below_then HB.out HB.out.size hb3); have HZ3 := Aside0.mk (show w.heap.size + 1 + 1 ≤ w3.heap.size by have := hb3.size; have := HZ.out; omega); clear ht9 hb3; unfold tmV)))
    obtain ⟨W4, hW4⟩ : ∃ W4, W4 = w3.alloc (tmO q9 y) := ⟨_, rfl⟩
    have hb4 : Below w3.heap.size w3 W4 := by rw [hW4]; exact below_alloc (Below.refl _ _) _
    have hO4 : W4.heap[w3.heap.size]? = some (tmO q9 y) := by rw [hW4]; exact blk_new _ _
    have hz3 := HZ3.out
    have hz0 := HB3.out.size
    have HX4 := Aside0.mk ((hb4.block _ (by omega)).trans HX3.out)
    have hX14 := (hb4.block _ (show w.heap.size + 1 < w3.heap.size by omega)).trans HX13.out
    have HX14 := Aside0.mk hX14
    have HT4 := Aside0.mk (HT9.out.later hb4)
    have HO4 := Aside0.mk hO4
    have HB4 := Aside0.mk (below_then HB3.out HB3.out.size hb4)
    have hzo := blk_lt hO4
    have HBW4 := Aside0.mk hb4
    have hgf := (hb4.block gf (by omega)).trans ((HB3.out.block gf (by omega)).trans HR.out.fr)
    have hgb := (hb4.block gb (by omega)).trans ((HB3.out.block gb (by omega)).trans HR.out.by_)
    have k1c : W4.cell? ⟨gf, 0, none⟩ = some (.int .i64 fr) := by rw [cell_of_row _ _ _ _ _ _ hgf]; rfl
    have k2c : W4.cell? ⟨gb, 0, none⟩ = some (.int .i64 by_) := by rw [cell_of_row _ _ _ _ _ _ hgb]; rfl
    obtain ⟨c0, c1, c2, c3, c4, c5, c6, c7⟩ := row8 HX4.out
    obtain ⟨r0, r1, r2, r3, r4, r5, r6, r7, f0, f1, f2, f3, f4, f5, f6, f7⟩ := row8c hX14
    have fo := blk_frozen hO4 1
    obtain ⟨o0, o1, o2, o3, o4, o5, o6, o7⟩ := row8 hO4
    unfold tmO at hW4
    rw [← hW4]
    clear hW4 hb4 hO4 hX14 hgf hgb
    obtain rfl : y = z := HZV.out.symm
    go_wp2_with (refine wpList_load_row rfl 28 _ rfl (w3.heap.size) rfl 28 _ (0, 0) _ HO4.out Try.underlying28 rfl (by kernel_rfl) ?_)
    refine bodyPost_ret (results_c rfl _ _ (w.heap.size + 1) 28 #[.int .i64 y.kind, .int .i64 y.num, .string y.name, .int .i64 y.lv.kind, .int .i64 y.lv.num, .slice q9.A y.lv.kids.length q9.c, .slice q9.B y.ls.length q9.d, .slice q9.K y.kids.length q9.e] (0, 0) _ rfl (set8 HX14.out) Try.underlying28 rfl (by kernel_rfl)) rfl ?_
    exact tm_retS (g := w.heap.size + 1) HT4.out (chg_set8 W4 (w.heap.size + 1) (.int .i64 y.kind) (.int .i64 y.num) (.string y.name) (.int .i64 y.lv.kind) (.int .i64 y.lv.num) (.slice q9.A y.lv.kids.length q9.c) (.slice q9.B y.ls.length q9.d) (.slice q9.K y.kids.length q9.e)) hg0 (by omega) (by have := HZ.out; omega) HB4.out HSS.out

theorem rebS_lift (S : Nat → Prop) (g0 g1 gf gb : Nat) (hS : ∀ k, S k → k < g0) (fr by_ : Int) (t : Tm) (p : Pl) (w : World) (hok : okT t) (h01 : g0 ≤ g1) (hgf : gf < g1) (hgb : gb < g1) (hg1 : g1 ≤ w.heap.size) (hf0 : 0 ≤ fr) (hby : -1048576 ≤ by_ ∧ by_ ≤ 1048576) (hin : TmS w S p t) (hR : RepLi gf gb fr by_ w) :
    Calls Try.prog 60 #[tmV p t, .int .i64 0, .func (.func 97) #[] #[.pointer (some ⟨gf, 0, none⟩), .pointer (some ⟨gb, 0, none⟩)]] w (TmGot w S (liftT fr by_ t)) :=
  reb_Li (liftF fr by_) (RepLi gf gb fr by_) S g0 g1 h01 hS gf gb (fun W W' h hs => ⟨(hs gf hgf).trans h.fr, (hs gb hgb).trans h.by_⟩)
    (fun t p b w _ hb0 hb1 hg hin hR => lift1S_calls S g0 g1 gf gb hS fr by_ t p b w h01 hgf hgb hg hb0 hb1 hf0 hby hin hR) _ t (Nat.lt_succ_self _) p 0 w (by omega) (by have := hok.2; omega) hg1 hin hR
set_option maxRecDepth 100000 in
set_option maxHeartbeats 2000000 in
theorem tliftS_calls (S : Nat → Prop) (g0 : Nat) (hS : ∀ k, S k → k < g0) (fr by_ : Int) (t : Tm) (p : Pl) (w : World) (hok : okT t) (hg0 : g0 ≤ w.heap.size) (hf0 : 0 ≤ fr) (hby : -1048576 ≤ by_ ∧ by_ ≤ 1048576) (hin : TmS w S p t) :
    Calls Try.prog 62 #[tmV p t, .int .i64 fr, .int .i64 by_] w (TmGot w S (liftT fr by_ t)) := by
  obtain ⟨W, hW⟩ : ∃ W, W = (((w.alloc (tmO p t)).alloc (.cells #[.int .i64 fr] 3 (0, 0))).alloc (.cells #[.int .i64 by_] 3 (0, 0))).alloc (outK 0 (.slice none 0 0)) := ⟨_, rfl⟩
  have hb : Below w.heap.size w W := by rw [hW]; exact below_alloc (below_alloc (below_alloc (below_alloc (Below.refl _ _) _) _) _) _
  have HX := Aside0.mk (show W.heap[w.heap.size]? = some (tmO p t) by rw [hW]; exact blk_alloc (blk_alloc (box0 w _ _) _) _)
  have HR := Aside0.mk (show RepLi (w.heap.size + 1) (w.heap.size + 1 + 1) fr by_ W by
    rw [hW]
    refine ⟨blk_alloc (blk_alloc (box1 w _ _) _) _, blk_alloc ?_ _⟩
    have := blk_new ((w.alloc (tmO p t)).alloc (.cells #[.int .i64 fr] 3 (0, 0))) (.cells #[.int .i64 by_] 3 (0, 0))
    simpa using this)
  have hXR : W.heap[w.heap.size + 1 + 1 + 1]? = some (outK 0 (.slice none 0 0)) := by
    rw [hW]
    have := blk_new (((w.alloc (tmO p t)).alloc (.cells #[.int .i64 fr] 3 (0, 0))).alloc (.cells #[.int .i64 by_] 3 (0, 0))) (outK 0 (.slice none 0 0))
    simpa using this
  have HXR := Aside0.mk hXR
  have HZ := Aside0.mk (blk_lt hXR)
  have HB := Aside0.mk hb
  have HIN := Aside0.mk (TmS.stay hin hS (hb.mono hg0))
  have HSS := Aside0.mk hS
  clear hS
  have HOK := Aside0.mk hok
  obtain ⟨y, hy⟩ : ∃ y, y = liftT fr by_ t := ⟨_, rfl⟩
  have HY := Aside0.mk hy
  rw [← hy]
  obtain ⟨hby0, hby1⟩ := hby
  clear hin hb hy hok hXR
  unfold tmV
  unfold tmO at hW
  go_enter Try.func62, Try.ntmps62
  go_upto_region 1 with (fail)
  rw [← hW]
  clear hW
  go_wp2_with (first
    | (refine wpList_load_row rfl 28 _ rfl (w.heap.size) rfl 28 _ (0, 0) _ HX.out Try.underlying28 rfl (by kernel_rfl) ?_)
    | (go_at_call 60; go_must (refine (rebS_lift S g0 (w.heap.size + 1 + 1 + 1) (w.heap.size + 1) (w.heap.size + 1 + 1) HSS.out fr by_ t p W HOK.out (by omega) (by omega) (by omega) (by have := HZ.out; omega) hf0 ⟨hby0, hby1⟩ HIN.out HR.out).mono ?_; rw [← HY.out]; rintro e w3 ⟨q9, rfl, ht9, hb3⟩; have HT9 := Aside0.mk ht9; have hX13 := (hb3.block _ (blk_lt HXR.out)).trans HXR.out; have HX13 := Aside0.mk hX13; have HB3 := Aside0.mk (below_then HB.out HB.out.size hb3); obtain ⟨r0, r1, r2, r3, r4, r5, r6, r7, f0, f1, f2, f3, f4, f5, f6, f7⟩ := row8c hX13; clear ht9 hb3 hX13; unfold tmV)))
  refine bodyPost_ret (results_c rfl _ _ (w.heap.size + 1 + 1 + 1) 28 #[.int .i64 y.kind, .int .i64 y.num, .string y.name, .int .i64 y.lv.kind, .int .i64 y.lv.num, .slice q9.A y.lv.kids.length q9.c, .slice q9.B y.ls.length q9.d, .slice q9.K y.kids.length q9.e] (0, 0) _ rfl (set8 HX13.out) Try.underlying28 rfl (by kernel_rfl)) rfl ?_
  exact tm_retS (g := w.heap.size + 1 + 1 + 1) HT9.out (chg_set8 w3 (w.heap.size + 1 + 1 + 1) (.int .i64 y.kind) (.int .i64 y.num) (.string y.name) (.int .i64 y.lv.kind) (.int .i64 y.lv.num) (.slice q9.A y.lv.kids.length q9.c) (.slice q9.B y.ls.length q9.d) (.slice q9.K y.kids.length q9.e)) hg0 (by omega) HZ.out HB3.out HSS.out
set_option maxRecDepth 100000 in
set_option maxHeartbeats 4000000 in
theorem LiftS_calls (S : Nat → Prop) (g0 : Nat) (hS : ∀ k, S k → k < g0) (fr by_ : Int) (t : Tm) (p : Pl) (w : World) (hg0 : g0 ≤ w.heap.size) (hin : TmS w S p t) :
    Calls Try.prog 23 #[tmV p t, .int .i64 fr, .int .i64 by_] w (TmGot w S (LiftT t fr by_)) := by
  obtain ⟨W, hW⟩ : ∃ W, W = (w.alloc (tmO p t)).alloc (outK 0 (.slice none 0 0)) := ⟨_, rfl⟩
  have hb : Below w.heap.size w W := by rw [hW]; exact below_alloc (below_alloc (Below.refl _ _) _) _
  have HX := Aside0.mk (show W.heap[w.heap.size]? = some (tmO p t) by rw [hW]; exact box0 w _ _)
  have HX1 := Aside0.mk (show W.heap[w.heap.size + 1]? = some (outK 0 (.slice none 0 0)) by rw [hW]; exact box1 w _ _)
  have HZ := Aside0.mk (show W.heap.size = w.heap.size + 1 + 1 by rw [hW]; simp)
  have HB := Aside0.mk hb
  have HIN := Aside0.mk (TmS.stay hin hS (hb.mono hg0))
  have HSS := Aside0.mk hS
  clear hS
  have HGE := Aside0.mk (great_eq t)
  obtain ⟨y, hy⟩ : ∃ y, y = LiftT t fr by_ := ⟨_, rfl⟩
  have HY := Aside0.mk hy
  rw [← hy]
  clear hin hb hy
  unfold tmV
  unfold tmO at hW
  go_enter Try.func23, Try.ntmps23
  go_upto_region 1 with (fail)
  rw [← hW]
  clear hW
  by_cases hk : okT t
  · have HK := Aside0.mk hk
    have HG := Aside0.mk (show greatB t = false by rw [HGE.out]; simp [hk])
    have HYO := Aside0.mk (HY.out.trans (LiftT_ok hk))
    clear hk
    go_upto_region 3 with (first
      | (refine wpList_load_row rfl 28 _ rfl (w.heap.size) rfl 28 _ (0, 0) _ HX.out Try.underlying28 rfl (by kernel_rfl) ?_)
      | (go_at_call 55; go_must (refine (great_calls t p W (TmS.mono HIN.out fun k h _ => Nat.lt_of_lt_of_le (HSS.out k h) (Nat.le_trans hg0 HB.out.size))).mono ?_; rintro e w1 ⟨rfl, hb⟩; rw [HG.out]; have HX01 := Aside0.mk ((hb.block _ (blk_lt HX.out)).trans HX.out); have HX11 := Aside0.mk ((hb.block _ (blk_lt HX1.out)).trans HX1.out); have HB1 := Aside0.mk (below_then HB.out HB.out.size hb); have HZ1 := Aside0.mk (show w.heap.size + 1 + 1 ≤ w1.heap.size by have := hb.size; have := HZ.out; omega); have HIN1 := Aside0.mk (TmS.stay HIN.out HSS.out (hb.mono (Nat.le_trans hg0 HB.out.size))); clear hb)))
    clear HX HX1 HB HIN
    by_cases hf : 0 < fr
    · skip
      by_cases hb1 : ¬ 1048576 < by_
      · by_cases hb2 : -1048576 < by_
        · have HF := Aside0.mk (show y = liftT (fr) (by_) t by rw [HYO.out]; congr 1 <;> omega)
          go_wp2_with (first
            | (refine wpList_load_row rfl 28 _ rfl (w.heap.size) rfl 28 _ (0, 0) _ HX01.out Try.underlying28 rfl (by kernel_rfl) ?_)
            | (go_at_call 62; go_must (refine (tliftS_calls S g0 HSS.out (fr) (by_) t p w1 HK.out (Nat.le_trans hg0 HB1.out.size) (by omega) (by omega) HIN1.out).mono ?_; rw [← HF.out]; rintro e w3 ⟨q9, rfl, ht9, hb3⟩; have HT9 := Aside0.mk ht9; have hX13 := (hb3.block _ (blk_lt HX11.out)).trans HX11.out; have HX13 := Aside0.mk hX13; have HB3 := Aside0.mk (below_then HB1.out HB1.out.size hb3); obtain ⟨r0, r1, r2, r3, r4, r5, r6, r7, f0, f1, f2, f3, f4, f5, f6, f7⟩ := row8c hX13; clear ht9 hb3 hX13; unfold tmV)))
          refine bodyPost_ret (results_c rfl _ _ (w.heap.size + 1) 28 #[.int .i64 y.kind, .int .i64 y.num, .string y.name, .int .i64 y.lv.kind, .int .i64 y.lv.num, .slice q9.A y.lv.kids.length q9.c, .slice q9.B y.ls.length q9.d, .slice q9.K y.kids.length q9.e] (0, 0) _ rfl (set8 HX13.out) Try.underlying28 rfl (by kernel_rfl)) rfl ?_
          exact tm_retS (g := w.heap.size + 1) HT9.out (chg_set8 w3 (w.heap.size + 1) (.int .i64 y.kind) (.int .i64 y.num) (.string y.name) (.int .i64 y.lv.kind) (.int .i64 y.lv.num) (.slice q9.A y.lv.kids.length q9.c) (.slice q9.B y.ls.length q9.d) (.slice q9.K y.kids.length q9.e)) hg0 (by omega) HZ1.out HB3.out HSS.out
        · have HF := Aside0.mk (show y = liftT (fr) (-1048576) t by rw [HYO.out]; congr 1 <;> omega)
          go_wp2_with (first
            | (refine wpList_load_row rfl 28 _ rfl (w.heap.size) rfl 28 _ (0, 0) _ HX01.out Try.underlying28 rfl (by kernel_rfl) ?_)
            | (go_at_call 62; go_must (refine (tliftS_calls S g0 HSS.out (fr) (-1048576) t p w1 HK.out (Nat.le_trans hg0 HB1.out.size) (by omega) (by omega) HIN1.out).mono ?_; rw [← HF.out]; rintro e w3 ⟨q9, rfl, ht9, hb3⟩; have HT9 := Aside0.mk ht9; have hX13 := (hb3.block _ (blk_lt HX11.out)).trans HX11.out; have HX13 := Aside0.mk hX13; have HB3 := Aside0.mk (below_then HB1.out HB1.out.size hb3); obtain ⟨r0, r1, r2, r3, r4, r5, r6, r7, f0, f1, f2, f3, f4, f5, f6, f7⟩ := row8c hX13; clear ht9 hb3 hX13; unfold tmV)))
          refine bodyPost_ret (results_c rfl _ _ (w.heap.size + 1) 28 #[.int .i64 y.kind, .int .i64 y.num, .string y.name, .int .i64 y.lv.kind, .int .i64 y.lv.num, .slice q9.A y.lv.kids.length q9.c, .slice q9.B y.ls.length q9.d, .slice q9.K y.kids.length q9.e] (0, 0) _ rfl (set8 HX13.out) Try.underlying28 rfl (by kernel_rfl)) rfl ?_
          exact tm_retS (g := w.heap.size + 1) HT9.out (chg_set8 w3 (w.heap.size + 1) (.int .i64 y.kind) (.int .i64 y.num) (.string y.name) (.int .i64 y.lv.kind) (.int .i64 y.lv.num) (.slice q9.A y.lv.kids.length q9.c) (.slice q9.B y.ls.length q9.d) (.slice q9.K y.kids.length q9.e)) hg0 (by omega) HZ1.out HB3.out HSS.out
      · have hb1' : 1048576 < by_ := by omega
        have HF := Aside0.mk (show y = liftT (fr) (1048576) t by rw [HYO.out]; congr 1 <;> omega)
        go_wp2_with (first
          | (refine wpList_load_row rfl 28 _ rfl (w.heap.size) rfl 28 _ (0, 0) _ HX01.out Try.underlying28 rfl (by kernel_rfl) ?_)
          | (go_at_call 62; go_must (refine (tliftS_calls S g0 HSS.out (fr) (1048576) t p w1 HK.out (Nat.le_trans hg0 HB1.out.size) (by omega) (by omega) HIN1.out).mono ?_; rw [← HF.out]; rintro e w3 ⟨q9, rfl, ht9, hb3⟩; have HT9 := Aside0.mk ht9; have hX13 := (hb3.block _ (blk_lt HX11.out)).trans HX11.out; have HX13 := Aside0.mk hX13; have HB3 := Aside0.mk (below_then HB1.out HB1.out.size hb3); obtain ⟨r0, r1, r2, r3, r4, r5, r6, r7, f0, f1, f2, f3, f4, f5, f6, f7⟩ := row8c hX13; clear ht9 hb3 hX13; unfold tmV)))
        refine bodyPost_ret (results_c rfl _ _ (w.heap.size + 1) 28 #[.int .i64 y.kind, .int .i64 y.num, .string y.name, .int .i64 y.lv.kind, .int .i64 y.lv.num, .slice q9.A y.lv.kids.length q9.c, .slice q9.B y.ls.length q9.d, .slice q9.K y.kids.length q9.e] (0, 0) _ rfl (set8 HX13.out) Try.underlying28 rfl (by kernel_rfl)) rfl ?_
        exact tm_retS (g := w.heap.size + 1) HT9.out (chg_set8 w3 (w.heap.size + 1) (.int .i64 y.kind) (.int .i64 y.num) (.string y.name) (.int .i64 y.lv.kind) (.int .i64 y.lv.num) (.slice q9.A y.lv.kids.length q9.c) (.slice q9.B y.ls.length q9.d) (.slice q9.K y.kids.length q9.e)) hg0 (by omega) HZ1.out HB3.out HSS.out
    · skip
      by_cases hb1 : ¬ 1048576 < by_
      · by_cases hb2 : -1048576 < by_
        · have HF := Aside0.mk (show y = liftT (0) (by_) t by rw [HYO.out]; congr 1 <;> omega)
          go_wp2_with (first
            | (refine wpList_load_row rfl 28 _ rfl (w.heap.size) rfl 28 _ (0, 0) _ HX01.out Try.underlying28 rfl (by kernel_rfl) ?_)
            | (go_at_call 62; go_must (refine (tliftS_calls S g0 HSS.out (0) (by_) t p w1 HK.out (Nat.le_trans hg0 HB1.out.size) (by omega) (by omega) HIN1.out).mono ?_; rw [← HF.out]; rintro e w3 ⟨q9, rfl, ht9, hb3⟩; have HT9 := Aside0.mk ht9; have hX13 := (hb3.block _ (blk_lt HX11.out)).trans HX11.out; have HX13 := Aside0.mk hX13; have HB3 := Aside0.mk (below_then HB1.out HB1.out.size hb3); obtain ⟨r0, r1, r2, r3, r4, r5, r6, r7, f0, f1, f2, f3, f4, f5, f6, f7⟩ := row8c hX13; clear ht9 hb3 hX13; unfold tmV)))
          refine bodyPost_ret (results_c rfl _ _ (w.heap.size + 1) 28 #[.int .i64 y.kind, .int .i64 y.num, .string y.name, .int .i64 y.lv.kind, .int .i64 y.lv.num, .slice q9.A y.lv.kids.length q9.c, .slice q9.B y.ls.length q9.d, .slice q9.K y.kids.length q9.e] (0, 0) _ rfl (set8 HX13.out) Try.underlying28 rfl (by kernel_rfl)) rfl ?_
          exact tm_retS (g := w.heap.size + 1) HT9.out (chg_set8 w3 (w.heap.size + 1) (.int .i64 y.kind) (.int .i64 y.num) (.string y.name) (.int .i64 y.lv.kind) (.int .i64 y.lv.num) (.slice q9.A y.lv.kids.length q9.c) (.slice q9.B y.ls.length q9.d) (.slice q9.K y.kids.length q9.e)) hg0 (by omega) HZ1.out HB3.out HSS.out
        · have HF := Aside0.mk (show y = liftT (0) (-1048576) t by rw [HYO.out]; congr 1 <;> omega)
          go_wp2_with (first
            | (refine wpList_load_row rfl 28 _ rfl (w.heap.size) rfl 28 _ (0, 0) _ HX01.out Try.underlying28 rfl (by kernel_rfl) ?_)
            | (go_at_call 62; go_must (refine (tliftS_calls S g0 HSS.out (0) (-1048576) t p w1 HK.out (Nat.le_trans hg0 HB1.out.size) (by omega) (by omega) HIN1.out).mono ?_; rw [← HF.out]; rintro e w3 ⟨q9, rfl, ht9, hb3⟩; have HT9 := Aside0.mk ht9; have hX13 := (hb3.block _ (blk_lt HX11.out)).trans HX11.out; have HX13 := Aside0.mk hX13; have HB3 := Aside0.mk (below_then HB1.out HB1.out.size hb3); obtain ⟨r0, r1, r2, r3, r4, r5, r6, r7, f0, f1, f2, f3, f4, f5, f6, f7⟩ := row8c hX13; clear ht9 hb3 hX13; unfold tmV)))
          refine bodyPost_ret (results_c rfl _ _ (w.heap.size + 1) 28 #[.int .i64 y.kind, .int .i64 y.num, .string y.name, .int .i64 y.lv.kind, .int .i64 y.lv.num, .slice q9.A y.lv.kids.length q9.c, .slice q9.B y.ls.length q9.d, .slice q9.K y.kids.length q9.e] (0, 0) _ rfl (set8 HX13.out) Try.underlying28 rfl (by kernel_rfl)) rfl ?_
          exact tm_retS (g := w.heap.size + 1) HT9.out (chg_set8 w3 (w.heap.size + 1) (.int .i64 y.kind) (.int .i64 y.num) (.string y.name) (.int .i64 y.lv.kind) (.int .i64 y.lv.num) (.slice q9.A y.lv.kids.length q9.c) (.slice q9.B y.ls.length q9.d) (.slice q9.K y.kids.length q9.e)) hg0 (by omega) HZ1.out HB3.out HSS.out
      · have hb1' : 1048576 < by_ := by omega
        have HF := Aside0.mk (show y = liftT (0) (1048576) t by rw [HYO.out]; congr 1 <;> omega)
        go_wp2_with (first
          | (refine wpList_load_row rfl 28 _ rfl (w.heap.size) rfl 28 _ (0, 0) _ HX01.out Try.underlying28 rfl (by kernel_rfl) ?_)
          | (go_at_call 62; go_must (refine (tliftS_calls S g0 HSS.out (0) (1048576) t p w1 HK.out (Nat.le_trans hg0 HB1.out.size) (by omega) (by omega) HIN1.out).mono ?_; rw [← HF.out]; rintro e w3 ⟨q9, rfl, ht9, hb3⟩; have HT9 := Aside0.mk ht9; have hX13 := (hb3.block _ (blk_lt HX11.out)).trans HX11.out; have HX13 := Aside0.mk hX13; have HB3 := Aside0.mk (below_then HB1.out HB1.out.size hb3); obtain ⟨r0, r1, r2, r3, r4, r5, r6, r7, f0, f1, f2, f3, f4, f5, f6, f7⟩ := row8c hX13; clear ht9 hb3 hX13; unfold tmV)))
        refine bodyPost_ret (results_c rfl _ _ (w.heap.size + 1) 28 #[.int .i64 y.kind, .int .i64 y.num, .string y.name, .int .i64 y.lv.kind, .int .i64 y.lv.num, .slice q9.A y.lv.kids.length q9.c, .slice q9.B y.ls.length q9.d, .slice q9.K y.kids.length q9.e] (0, 0) _ rfl (set8 HX13.out) Try.underlying28 rfl (by kernel_rfl)) rfl ?_
        exact tm_retS (g := w.heap.size + 1) HT9.out (chg_set8 w3 (w.heap.size + 1) (.int .i64 y.kind) (.int .i64 y.num) (.string y.name) (.int .i64 y.lv.kind) (.int .i64 y.lv.num) (.slice q9.A y.lv.kids.length q9.c) (.slice q9.B y.ls.length q9.d) (.slice q9.K y.kids.length q9.e)) hg0 (by omega) HZ1.out HB3.out HSS.out
  · have HG := Aside0.mk (show greatB t = true by rw [HGE.out]; simp [hk])
    obtain rfl : zeroT = y := (HY.out.trans (LiftT_no hk)).symm
    clear hk
    go_upto_region 2 with (first
      | (refine wpList_load_row rfl 28 _ rfl (w.heap.size) rfl 28 _ (0, 0) _ HX.out Try.underlying28 rfl (by kernel_rfl) ?_)
      | (go_at_call 55; go_must (refine (great_calls t p W (TmS.mono HIN.out fun k h _ => Nat.lt_of_lt_of_le (HSS.out k h) (Nat.le_trans hg0 HB.out.size))).mono ?_; rintro e w1 ⟨rfl, hb⟩; rw [HG.out]; have HX11 := Aside0.mk ((hb.block _ (blk_lt HX1.out)).trans HX1.out); have HB1 := Aside0.mk (below_then HB.out HB.out.size hb); clear hb)))
    obtain ⟨r0, r1, r2, r3, r4, r5, r6, r7, f0, f1, f2, f3, f4, f5, f6, f7⟩ := row8c HX11.out
    go_wp2
    refine bodyPost_ret (results_c rfl _ _ (w.heap.size + 1) 28 #[.int .i64 0, .int .i64 0, .string ⟨#[]⟩, .int .i64 0, .int .i64 0, .slice none 0 0, .slice none 0 0, .slice none 0 0] (0, 0) _ rfl (set8 HX11.out) Try.underlying28 rfl (by kernel_rfl)) rfl ?_
    exact tm_retS (g := w.heap.size + 1) (m := w.heap.size + 1 + 1) (TmS.zero w1 _) (chg_set8 w1 (w.heap.size + 1) (.int .i64 0) (.int .i64 0) (.string ⟨#[]⟩) (.int .i64 0) (.int .i64 0) (.slice none 0 0) (.slice none 0 0) (.slice none 0 0)) hg0 (by omega) (by omega) HB1.out HSS.out

end Go.Proofs.Ytdboloabpjmgaaa

/-! InsS -/
namespace Go.Proofs.Ytdboloabpjmgaaa
open Go.RowKit Go.Proofs.YtdboloabpjmgaaaW.PrintWords Go.RegionInvYtdboloabpjmgaaa Go.RegionEYtdboloabpjmgaaa

structure RepIsS (S : Nat → Prop) (gv : Nat) (pv : Pl) (v : Tm) (w : World) : Prop where
  box : w.heap[gv]? = some (tmO pv v)
  parts : TmS w S pv v
theorem tvarS_calls (S : Nat → Prop) (n : Int) (w : World) (hn : -9223372036854775808 ≤ n ∧ n ≤ 9223372036854775807) : Calls Try.prog 14 #[.int .i64 n] w (TmGot w S (varT n)) :=
  (tvar_calls 0 n w hn).mono fun e w' ⟨q, h1, h2, h3⟩ => ⟨q, h1, h2.mono fun k h _ => h.elim (fun h => by omega) .inr, h3⟩
set_option maxRecDepth 100000 in
set_option maxHeartbeats 2000000 in
theorem inst2S_calls (S : Nat → Prop) (g0 g1 gv : Nat) (hS : ∀ k, S k → k < g0) (v : Tm) (pv : Pl) (t : Tm) (p : Pl) (b : Int) (w : World) (h01 : g0 ≤ g1) (hgv : gv < g1) (hg1 : g1 ≤ w.heap.size) (hb0 : 0 ≤ b) (hb1 : b ≤ 1000000) (hokv : okT v) (hin : TmS w S p t) (hR : RepIsS S gv pv v w) :
    Calls Try.prog 61 #[tmV p t, .int .i64 b, .pointer (some ⟨gv, 0, none⟩)] w (TmGot w S (instF v t b)) := by
  have hg0 : g0 ≤ w.heap.size := Nat.le_trans h01 hg1
  have hnr := hin.fit.1
  obtain ⟨hn0, hn1⟩ := hnr
  have HOKV := Aside0.mk hokv
  obtain ⟨W, hW⟩ : ∃ W, W = (w.alloc (tmO p t)).alloc (outK 0 (.slice none 0 0)) := ⟨_, rfl⟩
  have hb : Below w.heap.size w W := by rw [hW]; exact below_alloc (below_alloc (Below.refl _ _) _) _
  have HX := Aside0.mk (show W.heap[w.heap.size]? = some (tmO p t) by rw [hW]; exact box0 w _ _)
  have HX1 := Aside0.mk (show W.heap[w.heap.size + 1]? = some (outK 0 (.slice none 0 0)) by rw [hW]; exact box1 w _ _)
  have HZ := Aside0.mk (show W.heap.size = w.heap.size + 1 + 1 by rw [hW]; simp)
  have HB := Aside0.mk hb
  have HIN := Aside0.mk (TmS.stay hin hS (hb.mono hg0))
  have HV := Aside0.mk ((hb.block gv (by omega)).trans hR.box)
  have HVI := Aside0.mk (TmS.stay hR.parts hS (hb.mono hg0))
  have HSS := Aside0.mk hS
  clear hS
  obtain ⟨z, hz⟩ : ∃ z, z = instF v t b := ⟨_, rfl⟩
  have HZZ := Aside0.mk hz
  rw [← hz]
  clear hin hb hz hR hokv
  unfold tmV
  unfold tmO at hW
  go_enter Try.func61, Try.ntmps61
  go_upto_block 0 with (fail)
  rw [← hW]
  clear hW
  obtain ⟨c0, c1, c2, c3, c4, c5, c6, c7⟩ := row8 HX.out
  by_cases k1 : t.kind = 1
  · have e1 : (t.kind == 1) = true := by simp [k1]
    have K1 := Aside0.mk k1
    clear k1
    by_cases k2 : t.num = b
    · have HZA := Aside0.mk (show liftT 0 b v = z from ((HZZ.out).trans (instF_hit K1.out k2)).symm)
      have e2 : (t.num == b) = true := by simp [k2]
      clear k2
      go_wp2_with (first
        | (refine wpList_load_row rfl 28 _ rfl (gv) rfl 28 _ (0, 0) _ HV.out Try.underlying28 rfl (by kernel_rfl) ?_)
        | (go_at_call 62; go_must (refine (TmGot.as (tliftS_calls S g0 HSS.out 0 b v pv W HOKV.out (Nat.le_trans hg0 HB.out.size) (by omega) (by omega) HVI.out) HZA.out).mono ?_; rintro e w3 ⟨q9, rfl, ht9, hb3⟩; have HT9 := Aside0.mk ht9; have hX13 := (hb3.block _ (blk_lt HX1.out)).trans HX1.out; have HX13 := Aside0.mk hX13; have HB3 := Aside0.mk (below_then HB.out HB.out.size hb3); obtain ⟨r0, r1, r2, r3, r4, r5, r6, r7, f0, f1, f2, f3, f4, f5, f6, f7⟩ := row8c hX13; clear ht9 hb3 hX13; unfold tmV)))
      refine bodyPost_ret (results_c rfl _ _ (w.heap.size + 1) 28 #[.int .i64 z.kind, .int .i64 z.num, .string z.name, .int .i64 z.lv.kind, .int .i64 z.lv.num, .slice q9.A z.lv.kids.length q9.c, .slice q9.B z.ls.length q9.d, .slice q9.K z.kids.length q9.e] (0, 0) _ rfl (set8 HX13.out) Try.underlying28 rfl (by kernel_rfl)) rfl ?_
      exact tm_retS (g := w.heap.size + 1) HT9.out (chg_set8 w3 (w.heap.size + 1) (.int .i64 z.kind) (.int .i64 z.num) (.string z.name) (.int .i64 z.lv.kind) (.int .i64 z.lv.num) (.slice q9.A z.lv.kids.length q9.c) (.slice q9.B z.ls.length q9.d) (.slice q9.K z.kids.length q9.e)) hg0 (by omega) (by have := HZ.out; omega) HB3.out HSS.out
    · have e2 : (t.num == b) = false := by simp [k2]
      by_cases k3 : b < t.num
      · have HZA := Aside0.mk (show varT (t.num - 1) = z from ((HZZ.out).trans (instF_far K1.out k3)).symm)
        clear k2
        go_wp2_with (go_at_call 14; go_must (refine (TmGot.as (tvarS_calls S (t.num - 1) W (by omega)) HZA.out).mono ?_; rintro e w3 ⟨q9, rfl, ht9, hb3⟩; have HT9 := Aside0.mk ht9; have hX13 := (hb3.block _ (blk_lt HX1.out)).trans HX1.out; have HX13 := Aside0.mk hX13; have HB3 := Aside0.mk (below_then HB.out HB.out.size hb3); obtain ⟨r0, r1, r2, r3, r4, r5, r6, r7, f0, f1, f2, f3, f4, f5, f6, f7⟩ := row8c hX13; clear ht9 hb3 hX13; unfold tmV))
        refine bodyPost_ret (results_c rfl _ _ (w.heap.size + 1) 28 #[.int .i64 z.kind, .int .i64 z.num, .string z.name, .int .i64 z.lv.kind, .int .i64 z.lv.num, .slice q9.A z.lv.kids.length q9.c, .slice q9.B z.ls.length q9.d, .slice q9.K z.kids.length q9.e] (0, 0) _ rfl (set8 HX13.out) Try.underlying28 rfl (by kernel_rfl)) rfl ?_
        exact tm_retS (g := w.heap.size + 1) HT9.out (chg_set8 w3 (w.heap.size + 1) (.int .i64 z.kind) (.int .i64 z.num) (.string z.name) (.int .i64 z.lv.kind) (.int .i64 z.lv.num) (.slice q9.A z.lv.kids.length q9.c) (.slice q9.B z.ls.length q9.d) (.slice q9.K z.kids.length q9.e)) hg0 (by omega) (by have := HZ.out; omega) HB3.out HSS.out
      · have HZA := Aside0.mk (show nodeP t = z from ((HZZ.out).trans (instF_near (by omega))).symm)
        clear k2
        go_wp2_with (first
          | (refine wpList_load_row rfl 28 _ rfl (w.heap.size) rfl 28 _ (0, 0) _ HX.out Try.underlying28 rfl (by kernel_rfl) ?_)
          | (go_at_call 63; go_must (refine (TmGot.as (node_calls S t p W HIN.out) HZA.out).mono ?_; rintro e w3 ⟨q9, rfl, ht9, hb3⟩; have HT9 := Aside0.mk ht9; have hX13 := (hb3.block _ (blk_lt HX1.out)).trans HX1.out; have HX13 := Aside0.mk hX13; have HB3 := Aside0.mk (below_then HB.out HB.out.size hb3); obtain ⟨r0, r1, r2, r3, r4, r5, r6, r7, f0, f1, f2, f3, f4, f5, f6, f7⟩ := row8c hX13; clear ht9 hb3 hX13; unfold tmV)))
        refine bodyPost_ret (results_c rfl _ _ (w.heap.size + 1) 28 #[.int .i64 z.kind, .int .i64 z.num, .string z.name, .int .i64 z.lv.kind, .int .i64 z.lv.num, .slice q9.A z.lv.kids.length q9.c, .slice q9.B z.ls.length q9.d, .slice q9.K z.kids.length q9.e] (0, 0) _ rfl (set8 HX13.out) Try.underlying28 rfl (by kernel_rfl)) rfl ?_
        exact tm_retS (g := w.heap.size + 1) HT9.out (chg_set8 w3 (w.heap.size + 1) (.int .i64 z.kind) (.int .i64 z.num) (.string z.name) (.int .i64 z.lv.kind) (.int .i64 z.lv.num) (.slice q9.A z.lv.kids.length q9.c) (.slice q9.B z.ls.length q9.d) (.slice q9.K z.kids.length q9.e)) hg0 (by omega) (by have := HZ.out; omega) HB3.out HSS.out
  · have e1 : (t.kind == 1) = false := by simp [k1]
    have HZA := Aside0.mk (show nodeP t = z from ((HZZ.out).trans (instF_no k1)).symm)
    clear k1
    go_wp2_with (first
      | (refine wpList_load_row rfl 28 _ rfl (w.heap.size) rfl 28 _ (0, 0) _ HX.out Try.underlying28 rfl (by kernel_rfl) ?_)
      | (go_at_call 63; go_must (refine (TmGot.as (node_calls S t p W HIN.out) HZA.out).mono ?_; rintro e w3 ⟨q9, rfl, ht9, hb3⟩; have HT9 := Aside0.mk ht9; have hX13 := (hb3.block _ (blk_lt HX1.out)).trans HX1.out; have HX13 := Aside0.mk hX13; have HB3 := Aside0.mk (below_then HB.out HB.out.size hb3); obtain ⟨r0, r1, r2, r3, r4, r5, r6, r7, f0, f1, f2, f3, f4, f5, f6, f7⟩ := row8c hX13; clear ht9 hb3 hX13; unfold tmV)))
    refine bodyPost_ret (results_c rfl _ _ (w.heap.size + 1) 28 #[.int .i64 z.kind, .int .i64 z.num, .string z.name, .int .i64 z.lv.kind, .int .i64 z.lv.num, .slice q9.A z.lv.kids.length q9.c, .slice q9.B z.ls.length q9.d, .slice q9.K z.kids.length q9.e] (0, 0) _ rfl (set8 HX13.out) Try.underlying28 rfl (by kernel_rfl)) rfl ?_
    exact tm_retS (g := w.heap.size + 1) HT9.out (chg_set8 w3 (w.heap.size + 1) (.int .i64 z.kind) (.int .i64 z.num) (.string z.name) (.int .i64 z.lv.kind) (.int .i64 z.lv.num) (.slice q9.A z.lv.kids.length q9.c) (.slice q9.B z.ls.length q9.d) (.slice q9.K z.kids.length q9.e)) hg0 (by omega) (by have := HZ.out; omega) HB3.out HSS.out

theorem rebS_inst (S : Nat → Prop) (g0 g1 gv : Nat) (hS : ∀ k, S k → k < g0) (v : Tm) (pv : Pl) (t : Tm) (p : Pl) (w : World) (hok : okT t) (hokv : okT v) (h01 : g0 ≤ g1) (hgv : gv < g1) (hg1 : g1 ≤ w.heap.size) (hin : TmS w S p t) (hR : RepIsS S gv pv v w) :
    Calls Try.prog 60 #[tmV p t, .int .i64 0, .func (.func 61) #[] #[.pointer (some ⟨gv, 0, none⟩)]] w (TmGot w S (rebP (instF v) t 0)) :=
  reb_Is (instF v) (RepIsS S gv pv v) S g0 g1 h01 hS gv (fun W W' h hs => ⟨(hs gv hgv).trans h.box, h.parts.same fun k hk _ => hs k (Nat.lt_of_lt_of_le (hS k hk) h01)⟩)
    (fun t p b w _ hb0 hb1 hg hin hR => inst2S_calls S g0 g1 gv hS v pv t p b w h01 hgv hg hb0 hb1 hokv hin hR) _ t (Nat.lt_succ_self _) p 0 w (by omega) (by have := hok.2; omega) hg1 hin hR
structure InsBS (w W : World) (S : Nat → Prop) (p pv : Pl) (t v : Tm) : Prop where
  bt : W.heap[w.heap.size]? = some (tmO p t)
  bv : W.heap[w.heap.size + 1]? = some (tmO pv v)
  br : W.heap[w.heap.size + 1 + 1]? = some (outK 0 (.slice none 0 0))
  bel : Below w.heap.size w W
  it : TmS W S p t
  iv : TmS W S pv v
theorem InsBS.far {w W W' : World} {S : Nat → Prop} {g0 : Nat} {p pv : Pl} {t v : Tm} (h : InsBS w W S p pv t v) (hS : ∀ k, S k → k < g0) (hg0 : g0 ≤ w.heap.size) (hb : Below (w.heap.size + 3) W W') : InsBS w W' S p pv t v :=
  ⟨(hb.block _ (by omega)).trans h.bt, (hb.block _ (by omega)).trans h.bv, (hb.block _ (by omega)).trans h.br, Below.trans h.bel (hb.mono (by omega)), h.it.stay hS (hb.mono (by omega)), h.iv.stay hS (hb.mono (by omega))⟩
set_option maxRecDepth 100000 in
set_option maxHeartbeats 4000000 in
theorem InstS_calls (S : Nat → Prop) (g0 : Nat) (hS : ∀ k, S k → k < g0) (t v : Tm) (p pv : Pl) (w : World) (hg0 : g0 ≤ w.heap.size) (hin : TmS w S p t) (hinv : TmS w S pv v) :
    Calls Try.prog 17 #[tmV p t, tmV pv v] w (TmGot w S (InstT t v)) := by
  obtain ⟨W, hW⟩ : ∃ W, W = ((w.alloc (tmO p t)).alloc (tmO pv v)).alloc (outK 0 (.slice none 0 0)) := ⟨_, rfl⟩
  have hb : Below w.heap.size w W := by rw [hW]; exact below_alloc (below_alloc (below_alloc (Below.refl _ _) _) _) _
  have hXR : W.heap[w.heap.size + 1 + 1]? = some (outK 0 (.slice none 0 0)) := by
    rw [hW]
    have := blk_new ((w.alloc (tmO p t)).alloc (tmO pv v)) (outK 0 (.slice none 0 0))
    simpa using this
  have HS := Aside0.mk (show InsBS w W S p pv t v from ⟨by rw [hW]; exact blk_alloc (box0 w _ _) _, by rw [hW]; exact blk_alloc (box1 w _ _) _, hXR, hb, TmS.stay hin hS (hb.mono hg0), TmS.stay hinv hS (hb.mono hg0)⟩)
  have HSS := Aside0.mk hS
  clear hS
  have HZ := Aside0.mk (blk_lt hXR)
  have HMT := Aside0.mk (show ∀ h : okT t, measP t = ((sizeT t : Int), (depthT t : Int)) from fun h => meas_yes h)
  obtain ⟨z, hz⟩ : ∃ z, z = InstT t v := ⟨_, rfl⟩
  have HZZ := Aside0.mk hz
  rw [← hz]
  clear hin hinv hb hz hXR
  unfold tmV
  unfold tmO at hW
  go_enter Try.func17, Try.ntmps17
  go_upto_region 1 with (fail)
  rw [← hW]
  clear hW
  obtain ⟨mt, hmt⟩ : ∃ x, measP t = x := ⟨_, rfl⟩
  obtain ⟨mv, hmv⟩ : ∃ x, measP v = x := ⟨_, rfl⟩
  obtain ⟨s1, d1⟩ := mt
  obtain ⟨s2, d2⟩ := mv
  have HM1 := Aside0.mk hmt
  have HM2 := Aside0.mk hmv
  clear hmt hmv
  go_upto_region 2 with (first
    | (refine wpList_load_row rfl 28 _ rfl (w.heap.size) rfl 28 _ (0, 0) _ HS.out.bt Try.underlying28 rfl (by kernel_rfl) ?_)
    | (go_at_call 57; go_must (refine (measure_calls t p W (TmS.mono HS.out.it fun k h _ => Nat.lt_of_lt_of_le (HSS.out k h) (Nat.le_trans hg0 HS.out.bel.size))).mono ?_; rw [HM1.out]; rintro e w1 ⟨rfl, hb⟩; dsimp only; have hz1 := hb.size; have HBW1 := Aside0.mk hb; clear hb)))
  obtain ⟨W1, hW1⟩ : ∃ W1, W1 = w1.alloc (.cells #[.int .i64 s1] 3 (0, 0)) := ⟨_, rfl⟩
  have hz0 := HZ.out
  have HS1 := Aside0.mk (show InsBS w W1 S p pv t v from HS.out.far HSS.out hg0 (by rw [hW1]; exact (below_alloc HBW1.out _).mono (by omega)))
  have HN1 := Aside0.mk (show NumAt W1 w1.heap.size s1 by rw [hW1]; exact blk_new _ _)
  have hzz1 : w1.heap.size < W1.heap.size := blk_lt HN1.out
  rw [← hW1]
  clear hW1 HS HBW1
  go_upto_region 3 with (first
    | (refine wpList_load_row rfl 28 _ rfl (w.heap.size + 1) rfl 28 _ (0, 0) _ HS1.out.bv Try.underlying28 rfl (by kernel_rfl) ?_)
    | (go_at_call 57; go_must (refine (measure_calls v pv W1 (TmS.mono HS1.out.iv fun k h _ => Nat.lt_of_lt_of_le (HSS.out k h) (Nat.le_trans hg0 HS1.out.bel.size))).mono ?_; rw [HM2.out]; rintro e w2 ⟨rfl, hb⟩; dsimp only; have hz2 := hb.size; have HBW2 := Aside0.mk hb; clear hb)))
  have HS2 := Aside0.mk (HS1.out.far HSS.out hg0 (HBW2.out.mono (by omega)))
  have HN2 := Aside0.mk (show NumAt w2 w1.heap.size s1 from (HBW2.out.block _ hzz1).trans HN1.out)
  clear HS1 HN1
  go_upto_region 4 with (fail)
  obtain ⟨W3, hW3⟩ : ∃ W3, W3 = w2.alloc (.cells #[.int .i64 0] 3 (0, 0)) := ⟨_, rfl⟩
  have hbw3 : Below w2.heap.size w2 W3 := by rw [hW3]; exact below_alloc (Below.refl _ _) _
  have HS3 := Aside0.mk (HS2.out.far HSS.out hg0 (hbw3.mono (by omega)))
  have HN3 := Aside0.mk (show NumAt W3 w1.heap.size s1 from (hbw3.block _ (by omega)).trans HN2.out)
  have HP3 := Aside0.mk (show NumAt W3 w2.heap.size 0 by rw [hW3]; exact blk_new _ _)
  have hzz3 : w2.heap.size < W3.heap.size := blk_lt HP3.out
  rw [← hW3]
  clear hW3 hbw3 HS2 HN2 HBW2
  have HOK := Aside0.mk (show 0 < s1 → okT t from fun h => Classical.byContradiction fun hn => by have e := HM1.out; rw [meas_no hn] at e; simp only [Prod.mk.injEq] at e; omega)
  obtain ⟨fb, fn, hf⟩ : ∃ fb fn, foldP (plF s1) t 1 0 0 = (fb, fn) := ⟨_, _, rfl⟩
  have HF := Aside0.mk hf
  clear hf
  go_upto_region 5 with (first
    | (refine wpList_load_row rfl 28 _ rfl (w.heap.size) rfl 28 _ (0, 0) _ HS3.out.bt Try.underlying28 rfl (by kernel_rfl) ?_)
    | (go_at_call 58; go_must (refine (foldPl_calls t p w.heap.size w2.heap.size w1.heap.size s1 W3 (by omega) (by omega) (by omega) (TmS.mono HS3.out.it fun k h _ => Nat.lt_of_lt_of_le (HSS.out k h) hg0) HP3.out HN3.out HOK.out).mono ?_; rintro e w4 ⟨rfl, hR, hC⟩; rw [HF.out] at hR; rw [HF.out]; dsimp only at hR ⊢; have HR4 := Aside0.mk hR; have hz4 := hC.size; have HS4 := Aside0.mk (HS3.out.far HSS.out hg0 (hC.below (fun k h => by omega) (by omega))); clear hR hC)))
  clear HS3 HN3 HP3
  have c1 := HR4.out.1.cell
  have c2 := HR4.out.2.cell
  by_cases ht : okT t
  · have hS := HM1.out
    rw [meas_yes ht] at hS
    simp only [Prod.mk.injEq] at hS
    have hS1 := ht.1
    have hS0 := size_pos t
    have hpl := pl_val s1 (by omega) _ t (Nat.lt_succ_self _) 1 0 0 (by omega) (by omega)
    rw [HF.out] at hpl
    have hfn : fn = (occT t 0 : Int) := by have := hpl.1; simp only [Prod.mk.injEq] at this; omega
    have hfn2 : 0 ≤ fn ∧ fn ≤ 20000 := by have := hpl.2; omega
    have hs1 : 1 ≤ s1 ∧ s1 ≤ 20000 := by omega
    have hne1 : (s1 == 0) = false := by simp; omega
    have HS1E := Aside0.mk (show s1 = (sizeT t : Int) by omega)
    have HFN := Aside0.mk hfn
    have HT := Aside0.mk ht
    clear hS hpl hfn ht hS1 hS0
    by_cases hv : okT v
    · have hS := HM2.out
      rw [meas_yes hv] at hS
      simp only [Prod.mk.injEq] at hS
      have hS1 := hv.1
      have hS0 := size_pos v
      have hs2 : 1 ≤ s2 ∧ s2 ≤ 20000 := by omega
      have hne2 : (s2 == 0) = false := by simp; omega
      have HS2E := Aside0.mk (show s2 = (sizeT v : Int) by omega)
      have HVV := Aside0.mk hv
      clear hS hv hS1 hS0
      have hpr : 0 ≤ fn * (s2 - 1) ∧ fn * (s2 - 1) ≤ 400000000 := ⟨Int.mul_nonneg hfn2.1 (by omega), Int.le_trans (Int.mul_le_mul hfn2.2 (show s2 - 1 ≤ 20000 by omega) (by omega) (by omega)) (by decide)⟩
      have HIS := Aside0.mk (show instS t v = s1 + fn * (s2 - 1) by unfold instS; rw [HS1E.out, HFN.out, HS2E.out])
      obtain ⟨hp0, hp1⟩ := hpr
      obtain ⟨hfn0, hfn1⟩ := hfn2
      obtain ⟨hs10, hs11⟩ := hs1
      obtain ⟨hs20, hs21⟩ := hs2
      by_cases hbig : 20000 < s1 + fn * (s2 - 1)
      · obtain rfl : zeroT = z := (HZZ.out.trans (InstT_no (fun h => by have := h.2.2; rw [HIS.out] at this; omega))).symm
        go_upto_region 6 with (fail)
        obtain ⟨r0, r1, r2, r3, r4, r5, r6, r7, f0, f1, f2, f3, f4, f5, f6, f7⟩ := row8c HS4.out.br
        go_wp2
        refine bodyPost_ret (results_c rfl _ _ (w.heap.size + 1 + 1) 28 #[.int .i64 0, .int .i64 0, .string ⟨#[]⟩, .int .i64 0, .int .i64 0, .slice none 0 0, .slice none 0 0, .slice none 0 0] (0, 0) _ rfl (set8 HS4.out.br) Try.underlying28 rfl (by kernel_rfl)) rfl ?_
        exact tm_retS (g := w.heap.size + 1 + 1) (m := w.heap.size + 1 + 1 + 1) (TmS.zero w4 _) (chg_set8 w4 (w.heap.size + 1 + 1) (.int .i64 0) (.int .i64 0) (.string ⟨#[]⟩) (.int .i64 0) (.int .i64 0) (.slice none 0 0) (.slice none 0 0) (.slice none 0 0)) hg0 (by omega) (by omega) HS4.out.bel HSS.out
      · have HZI := Aside0.mk (HZZ.out.trans (InstT_ok HT.out HVV.out (by rw [HIS.out]; omega)))
        obtain ⟨y, hy⟩ : ∃ y, y = rebP (instF v) t 0 := ⟨_, rfl⟩
        have HY := Aside0.mk hy
        rw [← hy] at HZI
        clear hy
        go_upto_region 8 with (first
          | (refine wpList_load_row rfl 28 _ rfl (w.heap.size) rfl 28 _ (0, 0) _ HS4.out.bt Try.underlying28 rfl (by kernel_rfl) ?_)
          | (go_at_call 60; go_must (refine (TmGot.as (rebS_inst S g0 (w.heap.size + 2) (w.heap.size + 1) HSS.out v pv t p w4 HT.out HVV.out (by omega) (by omega) (by omega) HS4.out.it ⟨HS4.out.bv, HS4.out.iv⟩) HY.out.symm).mono ?_; rintro e w5 ⟨q9, rfl, ht9, hb5⟩; have HT5 := Aside0.mk (TmS.mono (S' := fun k => (S k ∨ w4.heap.size ≤ k) ∧ k < w5.heap.size) ht9 fun k h hz => ⟨h, hz⟩); have hz5 := hb5.size; have HS5 := Aside0.mk (HS4.out.far HSS.out hg0 (hb5.mono (by omega))); clear ht9 hb5; unfold tmV)))
        clear HS4 HR4 c1 c2
        obtain ⟨W6, hW6⟩ : ∃ W6, W6 = w5.alloc (tmO q9 y) := ⟨_, rfl⟩
        have hb6 : Below w5.heap.size w5 W6 := by rw [hW6]; exact below_alloc (Below.refl _ _) _
        have HO6 := Aside0.mk (show W6.heap[w5.heap.size]? = some (tmO q9 y) by rw [hW6]; exact blk_new _ _)
        have HS6 := Aside0.mk (HS5.out.far HSS.out hg0 (hb6.mono (by omega)))
        have HT6 := Aside0.mk (HT5.out.later hb6)
        have hz6 := hb6.size
        have HGE := Aside0.mk (great_eq y)
        unfold tmO at hW6
        rw [← hW6]
        clear hW6 hb6 HS5 HT5
        by_cases hk : okT y
        · have HG := Aside0.mk (show greatB y = false by rw [HGE.out]; simp [hk])
          obtain rfl : y = z := (HZI.out.trans (fitT_ok hk)).symm
          clear hk
          go_upto_region 10 with (first
            | (refine wpList_load_row rfl 28 _ rfl (w5.heap.size) rfl 28 _ (0, 0) _ HO6.out Try.underlying28 rfl (by kernel_rfl) ?_)
            | (go_at_call 55; go_must (refine (great_calls y q9 W6 (TmS.all HT6.out)).mono ?_; rintro e w7 ⟨rfl, hb⟩; rw [HG.out]; have HO7 := Aside0.mk ((hb.block _ (blk_lt HO6.out)).trans HO6.out); have HT7 := Aside0.mk (HT6.out.later hb); have HS7 := Aside0.mk (HS6.out.far HSS.out hg0 (hb.mono (by omega))); clear hb)))
          obtain ⟨o0, o1, o2, o3, o4, o5, o6, o7⟩ := row8 HO7.out
          have hXR7 := HS7.out.br
          obtain ⟨r0, r1, r2, r3, r4, r5, r6, r7, f0, f1, f2, f3, f4, f5, f6, f7⟩ := row8c hXR7
          go_wp2
          refine bodyPost_ret (results_c rfl _ _ (w.heap.size + 1 + 1) 28 #[.int .i64 y.kind, .int .i64 y.num, .string y.name, .int .i64 y.lv.kind, .int .i64 y.lv.num, .slice q9.A y.lv.kids.length q9.c, .slice q9.B y.ls.length q9.d, .slice q9.K y.kids.length q9.e] (0, 0) _ rfl (set8 HS7.out.br) Try.underlying28 rfl (by kernel_rfl)) rfl ?_
          exact tm_retS (g := w.heap.size + 1 + 1) (m := w4.heap.size) (TmS.mono HT7.out fun k h _ => h.1) (chg_set8 w7 (w.heap.size + 1 + 1) (.int .i64 y.kind) (.int .i64 y.num) (.string y.name) (.int .i64 y.lv.kind) (.int .i64 y.lv.num) (.slice q9.A y.lv.kids.length q9.c) (.slice q9.B y.ls.length q9.d) (.slice q9.K y.kids.length q9.e)) hg0 (by omega) (by omega) HS7.out.bel HSS.out
        · have HG := Aside0.mk (show greatB y = true by rw [HGE.out]; simp [hk])
          obtain rfl : zeroT = z := (HZI.out.trans (fitT_no hk)).symm
          clear hk
          go_upto_region 9 with (first
            | (refine wpList_load_row rfl 28 _ rfl (w5.heap.size) rfl 28 _ (0, 0) _ HO6.out Try.underlying28 rfl (by kernel_rfl) ?_)
            | (go_at_call 55; go_must (refine (great_calls y q9 W6 (TmS.all HT6.out)).mono ?_; rintro e w7 ⟨rfl, hb⟩; rw [HG.out]; have HS7 := Aside0.mk (HS6.out.far HSS.out hg0 (hb.mono (by omega))); clear hb)))
          obtain ⟨r0, r1, r2, r3, r4, r5, r6, r7, f0, f1, f2, f3, f4, f5, f6, f7⟩ := row8c HS7.out.br
          go_wp2
          refine bodyPost_ret (results_c rfl _ _ (w.heap.size + 1 + 1) 28 #[.int .i64 0, .int .i64 0, .string ⟨#[]⟩, .int .i64 0, .int .i64 0, .slice none 0 0, .slice none 0 0, .slice none 0 0] (0, 0) _ rfl (set8 HS7.out.br) Try.underlying28 rfl (by kernel_rfl)) rfl ?_
          exact tm_retS (g := w.heap.size + 1 + 1) (m := w.heap.size + 1 + 1 + 1) (TmS.zero w7 _) (chg_set8 w7 (w.heap.size + 1 + 1) (.int .i64 0) (.int .i64 0) (.string ⟨#[]⟩) (.int .i64 0) (.int .i64 0) (.slice none 0 0) (.slice none 0 0) (.slice none 0 0)) hg0 (by omega) (by omega) HS7.out.bel HSS.out
    · have hS := HM2.out
      rw [meas_no hv] at hS
      simp only [Prod.mk.injEq] at hS
      have hne2 : (s2 == 0) = true := by simp; omega
      obtain rfl : zeroT = z := (HZZ.out.trans (InstT_no (fun h => hv h.2.1))).symm
      clear hS hv
      go_upto_region 6 with (fail)
      obtain ⟨r0, r1, r2, r3, r4, r5, r6, r7, f0, f1, f2, f3, f4, f5, f6, f7⟩ := row8c HS4.out.br
      go_wp2
      refine bodyPost_ret (results_c rfl _ _ (w.heap.size + 1 + 1) 28 #[.int .i64 0, .int .i64 0, .string ⟨#[]⟩, .int .i64 0, .int .i64 0, .slice none 0 0, .slice none 0 0, .slice none 0 0] (0, 0) _ rfl (set8 HS4.out.br) Try.underlying28 rfl (by kernel_rfl)) rfl ?_
      exact tm_retS (g := w.heap.size + 1 + 1) (m := w.heap.size + 1 + 1 + 1) (TmS.zero w4 _) (chg_set8 w4 (w.heap.size + 1 + 1) (.int .i64 0) (.int .i64 0) (.string ⟨#[]⟩) (.int .i64 0) (.int .i64 0) (.slice none 0 0) (.slice none 0 0) (.slice none 0 0)) hg0 (by omega) (by omega) HS4.out.bel HSS.out
  · have hS := HM1.out
    rw [meas_no ht] at hS
    simp only [Prod.mk.injEq] at hS
    have hne1 : (s1 == 0) = true := by simp; omega
    obtain rfl : zeroT = z := (HZZ.out.trans (InstT_no (fun h => ht h.1))).symm
    clear hS ht
    go_upto_region 6 with (fail)
    obtain ⟨r0, r1, r2, r3, r4, r5, r6, r7, f0, f1, f2, f3, f4, f5, f6, f7⟩ := row8c HS4.out.br
    go_wp2
    refine bodyPost_ret (results_c rfl _ _ (w.heap.size + 1 + 1) 28 #[.int .i64 0, .int .i64 0, .string ⟨#[]⟩, .int .i64 0, .int .i64 0, .slice none 0 0, .slice none 0 0, .slice none 0 0] (0, 0) _ rfl (set8 HS4.out.br) Try.underlying28 rfl (by kernel_rfl)) rfl ?_
    exact tm_retS (g := w.heap.size + 1 + 1) (m := w.heap.size + 1 + 1 + 1) (TmS.zero w4 _) (chg_set8 w4 (w.heap.size + 1 + 1) (.int .i64 0) (.int .i64 0) (.string ⟨#[]⟩) (.int .i64 0) (.int .i64 0) (.slice none 0 0) (.slice none 0 0) (.slice none 0 0)) hg0 (by omega) (by omega) HS4.out.bel HSS.out

end Go.Proofs.Ytdboloabpjmgaaa

/-! TwoB -/
namespace Go.Proofs.Ytdboloabpjmgaaa
open Go.RowKit Go.Proofs.YtdboloabpjmgaaaW.PrintWords Go.RegionInvYtdboloabpjmgaaa Go.RegionEYtdboloabpjmgaaa

structure TwoB (w W : World) (pa pb : Pl) (a b : Tm) : Prop where
  ba : W.heap[w.heap.size]? = some (tmO pa a)
  bb : W.heap[w.heap.size + 1]? = some (tmO pb b)
  bel : Below w.heap.size w W
  ia : TmIn W w.heap.size pa a
  ib : TmIn W w.heap.size pb b
theorem TwoB.later {w W W' : World} {pa pb : Pl} {a b : Tm} (h : TwoB w W pa pb a b) (hb : Below W.heap.size W W') : TwoB w W' pa pb a b :=
  ⟨(hb.block _ (blk_lt h.ba)).trans h.ba, (hb.block _ (blk_lt h.bb)).trans h.bb, below_then h.bel h.bel.size hb, h.ia.stay (hb.mono h.bel.size), h.ib.stay (hb.mono h.bel.size)⟩
structure BoxT (W : World) (g : Nat) (q : Pl) (t : Tm) : Prop where
  x : W.heap[g]? = some (tmO q t)
  i : TmIn W W.heap.size q t
theorem BoxT.later {W W' : World} {g : Nat} {q : Pl} {t : Tm} (h : BoxT W g q t) (hb : Below W.heap.size W W') : BoxT W' g q t := ⟨(hb.block _ (blk_lt h.x)).trans h.x, TmS.all (TmS.later h.i hb)⟩
end Go.Proofs.Ytdboloabpjmgaaa

/-! TmX -/
namespace Go.Proofs.Ytdboloabpjmgaaa
open Go.RowKit Go.Proofs.YtdboloabpjmgaaaW.PrintWords Go.RegionInvYtdboloabpjmgaaa Go.RegionEYtdboloabpjmgaaa

def TmBox (p : Nat) (T : Nat → Prop) (t : Tm) (w : World) (O : Nat → Prop) : Prop := ∃ q, w.heap[p]? = some (tmO q t) ∧ O p ∧ TmS w (fun k => T k ∨ (O k ∧ k ≠ p)) q t
theorem stableE_tmbox {w0 : World} {E : Nat → Nat → Prop} {T : Nat → Prop} {t : Tm} {p : Nat} (hT : ∀ k, T k → Fix w0 E k) : StableE w0 E (fun _ w O => TmBox p T t w O) := by
  rintro v w w' O ⟨q, hb, hO, h⟩ hz hk
  exact ⟨q, (hk p (blk_lt hb) (.inr hO)).trans hb, hO, h.same fun k hk' hz' => hk k hz' (hk'.imp (hT k) And.left)⟩
theorem all_one {l : List Value} (h : l.all (·.oneCell') = true) : l.toArray.all (·.oneCell') = true := by rw [List.all_toArray]; exact h
section
variable {ops : Array Oper} {Q : Exit → Act → World → Prop} {R : Nat → Prop} {a : Act} {w : World} {o : Oper} {T : Nat → Prop}
theorem tm_one (q : Pl) (t : Tm) : (#[.int .i64 t.kind, .int .i64 t.num, .string t.name, .int .i64 t.lv.kind, .int .i64 t.lv.num, .slice q.A t.lv.kids.length q.c, .slice q.B t.ls.length q.d, .slice q.K t.kids.length q.e] : Array Value).all (·.oneCell') = true := all_one (l := [.int .i64 t.kind, .int .i64 t.num, .string t.name, .int .i64 t.lv.kind, .int .i64 t.lv.num, .slice q.A t.lv.kids.length q.c, .slice q.B t.ls.length q.d, .slice q.K t.kids.length q.e]) rfl
theorem obE_tmPut {V7 : Value} {t t0 : Tm} {q0 : Pl} {O2 : Nat → Prop} {x y : Operand} {g : Nat} (ho : o.op = .store 28 x y) (hw : Region.wanted o (yielded ops a.tmps) = true) (hx : a.eval x = .pointer (some ⟨g, 0, none⟩))
    (hg : w.heap[g]? = some (tmO q0 t0)) (h2 : TmO T t (a.eval y) w O2) (hRg : R g) (hR2 : ∀ k, O2 k → R k) (hTg : ¬ T g) (hOg : ¬ O2 g) (hV : V7 = .pointer (some ⟨g, 0, none⟩)) :
    OwesE Try.prog ops Q R (fun _ w O => ∃ p, V7 = .pointer (some ⟨p, 0, none⟩) ∧ TmBox p T t w O) o a w := by
  obtain ⟨q, hy, ht⟩ := h2
  have hs := run_storeVar_row (P := Try.prog) w g 28 28 _ #[.int .i64 t.kind, .int .i64 t.num, .string t.name, .int .i64 t.lv.kind, .int .i64 t.lv.num, .slice q.A t.lv.kids.length q.c, .slice q.B t.ls.length q.d, .slice q.K t.kids.length q.e] hg (by kernel_rfl) rfl (tm_one q t)
  have hother : ∀ k, k ≠ g → (w.setRow g #[.int .i64 t.kind, .int .i64 t.num, .string t.name, .int .i64 t.lv.kind, .int .i64 t.lv.num, .slice q.A t.lv.kids.length q.c, .slice q.B t.ls.length q.d, .slice q.K t.kids.length q.e]).heap[k]? = w.heap[k]? := fun k hk => setRow_other w g k _ hk
  refine obE_store (w' := w.setRow g _) (fun k => k = g ∨ O2 k) hw ?_ ⟨rfl, rfl, rfl, Nat.le_of_eq (size_setRow _ _ _).symm, fun k _ hn => hother k (fun e => hn (e ▸ hRg))⟩ ⟨g, hV, q, setRow_heap w g _ _ _ _ hg, .inl rfl, ?_⟩ (fun k h => .inl (h.elim (fun h => h ▸ hRg) (hR2 k)))
  · unfold execOp
    simp only [ho, hx, hy, tmV, Instr.storeAt, Instr.sureAddr, Sem.run_bind, Sem.run_pure, Result.andThen_ok, hs]
  · refine (ht.mono (S' := fun k => (T k ∨ (k = g ∨ O2 k)) ∧ k ≠ g) fun k h _ => ⟨h.imp id .inr, fun e => h.elim (fun h => hTg (e ▸ h)) (fun h => hOg (e ▸ h))⟩).same (fun k h _ => hother k h.2) |>.mono fun k h _ => h.1.imp id fun h' => ⟨h', h.2⟩
end
abbrev plz : Pl := ⟨none, 0, none, 0, none, 0⟩
theorem TmS.any {w w' : World} {S S' : Nat → Prop} {q : Pl} {t : Tm} (h : TmS w S q t) (h1 : t.lv.kids = []) (h2 : t.ls = []) (h3 : t.kids = []) : TmS w' S' q t := by
  have hlv := h.lv.len
  have hls := h.ls.len
  have hk := h.len
  have hf := h.fit
  obtain ⟨k, n, nm, ⟨lk, ln, lks⟩, ls, ks⟩ := t
  simp only [Tm.lv, Tm.ls, Tm.kids, Lv.kids] at h1 h2 h3
  subst h1 h2 h3
  refine .mk (fun _ => plz) ?_ ?_ hk.1 hk.2 hf (fun i x hx => by simp at hx) (fun i x hx => by simp at hx)
  · exact .mk (fun _ => none) (fun _ => 0) hlv.1 hlv.2 (fun i x hx => by simp at hx) (fun i x hx => by simp at hx)
  · exact .mk (fun _ => none) (fun _ => 0) hls.1 hls.2 (fun i x hx => by simp at hx) (fun i x hx => by simp at hx)
end Go.Proofs.Ytdboloabpjmgaaa

/-! RLf -/
namespace Go.Proofs.Ytdboloabpjmgaaa
open Go.RowKit Go.Proofs.YtdboloabpjmgaaaW.PrintWords Go.RegionInvYtdboloabpjmgaaa Go.RegionEYtdboloabpjmgaaa

def chC (d f b : Int) (pv : Pl) (v : Tm) : Array Value := #[.int .i64 d, .int .i64 f, .int .i64 b, .int .i64 v.kind, .int .i64 v.num, .string v.name, .int .i64 v.lv.kind, .int .i64 v.lv.num, .slice pv.A v.lv.kids.length pv.c, .slice pv.B v.ls.length pv.d, .slice pv.K v.kids.length pv.e, .slice none 0 0]
def chV (d f b : Int) (pv : Pl) (v : Tm) : Value := .agg (chC d f b pv v)
set_option maxRecDepth 100000 in
set_option maxHeartbeats 4000000 in
theorem leafV_calls (by_ : Int) (q : Pl) (w : World) (hby : -1048576 ≤ by_ ∧ by_ ≤ 1048576) (hq : TmS w (fun _ => False) q (varT 0)) :
    Calls Try.prog 98 #[chV 0 0 by_ plz zeroT, tmV q (varT 0), .int .i64 0] w (TmGot w (fun _ => False) (varT (max 0 by_))) := by
  obtain ⟨m, hm⟩ : ∃ m, max 0 by_ = m := ⟨_, rfl⟩
  rw [hm]
  have HT := Aside0.mk (show TmS w (fun _ => False) q (varT m) from hq.renum (by omega))
  have HMM := Aside0.mk hm
  clear hq hm
  obtain ⟨W, hW⟩ : ∃ W, W = ((w.alloc (.cells (chC 0 0 by_ plz zeroT) 71 (0, 0))).alloc (tmO q (varT 0))).alloc (outK 0 (.slice none 0 0)) := ⟨_, rfl⟩
  have hb : Below w.heap.size w W := by rw [hW]; exact below_alloc (below_alloc (below_alloc (Below.refl _ _) _) _) _
  have hc3 : W.heap[w.heap.size]? = some (.cells (chC 0 0 by_ plz zeroT) 71 (0, 0)) := by rw [hW]; exact blk_alloc (box0 w _ _) _
  have hx4 : W.heap[w.heap.size + 1]? = some (tmO q (varT 0)) := by rw [hW]; exact blk_alloc (box1 w _ _) _
  have hr6 : W.heap[w.heap.size + 1 + 1]? = some (outK 0 (.slice none 0 0)) := by
    rw [hW]
    have := blk_new ((w.alloc (.cells (chC 0 0 by_ plz zeroT) 71 (0, 0))).alloc (tmO q (varT 0))) (outK 0 (.slice none 0 0))
    simp only [World.size_alloc] at this
    exact this
  have hzW : W.heap.size = w.heap.size + 3 := by rw [hW]; simp
  have HB := Aside0.mk hb
  have HC := Aside0.mk hc3
  have HX := Aside0.mk hx4
  have HR := Aside0.mk hr6
  have HZ := Aside0.mk hzW
  have c0 : W.cell? ⟨w.heap.size, 0, none⟩ = some (.int .i64 0) := by rw [cell_of_row _ _ _ _ _ _ hc3]; rfl
  have c1 : W.cell? ⟨w.heap.size, 1, none⟩ = some (.int .i64 0) := by rw [cell_of_row _ _ _ _ _ _ hc3]; rfl
  have c2 : W.cell? ⟨w.heap.size, 2, none⟩ = some (.int .i64 by_) := by rw [cell_of_row _ _ _ _ _ _ hc3]; rfl
  obtain ⟨x0, x1, x2, x3, x4, x5, x6, x7⟩ := row8 hx4
  replace x0 : W.cell? ⟨w.heap.size + 1, 0, none⟩ = some (.int .i64 1) := x0
  replace x1 : W.cell? ⟨w.heap.size + 1, 1, none⟩ = some (.int .i64 0) := x1
  have fx := blk_frozen hx4 1
  clear hb hc3 hr6 hzW
  unfold chV tmV
  unfold tmO at hW
  go_enter Try.func98, Try.ntmps98
  go_upto_region 1 with (fail)
  rw [← hW]
  clear hW hx4
  by_cases hp : 0 < by_
  · have e1 : wrap64 (9223372036854775807 - by_) = 9223372036854775807 - by_ := by unfold wrap64; omega
    have e2 : wrap64 (0 + by_) = by_ := by unfold wrap64; omega
    have HM := Aside0.mk (show m = by_ by have := HMM.out; omega)
    go_upto_region 20 with (fail)
    obtain ⟨W5, hW5⟩ : ∃ W5, W5 = W.setCell ⟨w.heap.size + 1, 1, none⟩ (.int .i64 by_) := ⟨_, rfl⟩
    have hc5 := chg_set W (w.heap.size + 1) 1 (.int .i64 by_)
    have hx5 := blk_put HX.out 1 (.int .i64 by_) rfl
    rw [← hW5] at hc5 hx5
    have HX5 := Aside0.mk (show W5.heap[w.heap.size + 1]? = some (tmO q (varT by_)) from hx5)
    have HR5 := Aside0.mk ((hc5.block _ (blk_lt HR.out) (by omega)).trans HR.out)
    have HB5 := Aside0.mk (Chg.trans_below HB.out hc5 (fun _ e => by omega) HB.out.size)
    rw [← hW5]
    clear hW5 hc5 hx5 c0 c1 c2 x0 x1 x2 x3 x4 x5 x6 x7 fx
    obtain ⟨r0, r1, r2, r3, r4, r5, r6, r7, f0, f1, f2, f3, f4, f5, f6, f7⟩ := row8c HR5.out
    go_wp2_with (refine wpList_load_row rfl 28 _ rfl (w.heap.size + 1) rfl 28 _ (0, 0) _ HX5.out Try.underlying28 rfl (by kernel_rfl) ?_)
    refine bodyPost_ret (results_c rfl _ _ (w.heap.size + 1 + 1) 28 #[.int .i64 1, .int .i64 by_, .string ⟨#[]⟩, .int .i64 0, .int .i64 0, .slice q.A 0 q.c, .slice q.B 0 q.d, .slice q.K 0 q.e] (0, 0) _ rfl (set8 HR5.out) Try.underlying28 rfl (by kernel_rfl)) rfl ?_
    have hch := chg_set8 W5 (w.heap.size + 1 + 1) (.int .i64 1) (.int .i64 by_) (.string ⟨#[]⟩) (.int .i64 0) (.int .i64 0) (.slice q.A 0 q.c) (.slice q.B 0 q.d) (.slice q.K 0 q.e)
    refine ⟨q, by rw [HM.out]; rfl, HT.out.any rfl rfl rfl, Chg.trans_below HB5.out hch (fun _ e => by omega) HB5.out.size⟩
  · have e2 : wrap64 (0 + by_) = by_ := by unfold wrap64; omega
    have HM := Aside0.mk (show m = 0 by have := HMM.out; omega)
    go_upto_region 20 with (fail)
    obtain ⟨W5, hW5⟩ : ∃ W5, W5 = W.setCell ⟨w.heap.size + 1, 1, none⟩ (.int .i64 0) := ⟨_, rfl⟩
    have hc5 := chg_set W (w.heap.size + 1) 1 (.int .i64 0)
    have hx5 := blk_put HX.out 1 (.int .i64 0) rfl
    rw [← hW5] at hc5 hx5
    have HX5 := Aside0.mk (show W5.heap[w.heap.size + 1]? = some (tmO q (varT 0)) from hx5)
    have HR5 := Aside0.mk ((hc5.block _ (blk_lt HR.out) (by omega)).trans HR.out)
    have HB5 := Aside0.mk (Chg.trans_below HB.out hc5 (fun _ e => by omega) HB.out.size)
    rw [← hW5]
    clear hW5 hc5 hx5 c0 c1 c2 x0 x1 x2 x3 x4 x5 x6 x7 fx
    obtain ⟨r0, r1, r2, r3, r4, r5, r6, r7, f0, f1, f2, f3, f4, f5, f6, f7⟩ := row8c HR5.out
    go_wp2_with (refine wpList_load_row rfl 28 _ rfl (w.heap.size + 1) rfl 28 _ (0, 0) _ HX5.out Try.underlying28 rfl (by kernel_rfl) ?_)
    refine bodyPost_ret (results_c rfl _ _ (w.heap.size + 1 + 1) 28 #[.int .i64 1, .int .i64 0, .string ⟨#[]⟩, .int .i64 0, .int .i64 0, .slice q.A 0 q.c, .slice q.B 0 q.d, .slice q.K 0 q.e] (0, 0) _ rfl (set8 HR5.out) Try.underlying28 rfl (by kernel_rfl)) rfl ?_
    have hch := chg_set8 W5 (w.heap.size + 1 + 1) (.int .i64 1) (.int .i64 0) (.string ⟨#[]⟩) (.int .i64 0) (.int .i64 0) (.slice q.A 0 q.c) (.slice q.B 0 q.d) (.slice q.K 0 q.e)
    refine ⟨q, by rw [HM.out]; rfl, HT.out.any rfl rfl rfl, Chg.trans_below HB5.out hch (fun _ e => by omega) HB5.out.size⟩
set_option maxRecDepth 100000 in
set_option maxHeartbeats 4000000 in
theorem leafZ_calls (d by_ : Int) (pv : Pl) (v : Tm) (q : Pl) (w : World) (hd : d = 0 ∨ d = 1) (hq : TmS w (fun _ => False) q zeroT) :
    Calls Try.prog 98 #[chV d 0 by_ pv v, tmV q zeroT, .int .i64 0] w (TmGot w (fun _ => False) zeroT) := by
  have HT := Aside0.mk hq
  clear hq
  obtain ⟨W, hW⟩ : ∃ W, W = ((w.alloc (.cells (chC d 0 by_ pv v) 71 (0, 0))).alloc (tmO q zeroT)).alloc (outK 0 (.slice none 0 0)) := ⟨_, rfl⟩
  have hb : Below w.heap.size w W := by rw [hW]; exact below_alloc (below_alloc (below_alloc (Below.refl _ _) _) _) _
  have hc3 : W.heap[w.heap.size]? = some (.cells (chC d 0 by_ pv v) 71 (0, 0)) := by rw [hW]; exact blk_alloc (box0 w _ _) _
  have hx4 : W.heap[w.heap.size + 1]? = some (tmO q zeroT) := by rw [hW]; exact blk_alloc (box1 w _ _) _
  have hr6 : W.heap[w.heap.size + 1 + 1]? = some (outK 0 (.slice none 0 0)) := by
    rw [hW]
    have := blk_new ((w.alloc (.cells (chC d 0 by_ pv v) 71 (0, 0))).alloc (tmO q zeroT)) (outK 0 (.slice none 0 0))
    simp only [World.size_alloc] at this
    exact this
  have hzW : W.heap.size = w.heap.size + 3 := by rw [hW]; simp
  have HB := Aside0.mk hb
  have HC := Aside0.mk hc3
  have HX := Aside0.mk hx4
  have HR := Aside0.mk hr6
  have HZ := Aside0.mk hzW
  have c0 : W.cell? ⟨w.heap.size, 0, none⟩ = some (.int .i64 d) := by rw [cell_of_row _ _ _ _ _ _ hc3]; rfl
  have c1 : W.cell? ⟨w.heap.size, 1, none⟩ = some (.int .i64 0) := by rw [cell_of_row _ _ _ _ _ _ hc3]; rfl
  have c2 : W.cell? ⟨w.heap.size, 2, none⟩ = some (.int .i64 by_) := by rw [cell_of_row _ _ _ _ _ _ hc3]; rfl
  obtain ⟨x0, x1, x2, x3, x4, x5, x6, x7⟩ := row8 hx4
  replace x0 : W.cell? ⟨w.heap.size + 1, 0, none⟩ = some (.int .i64 0) := x0
  replace x1 : W.cell? ⟨w.heap.size + 1, 1, none⟩ = some (.int .i64 0) := x1
  have fx := blk_frozen hx4 1
  clear hb hc3 hr6 hzW
  unfold chV tmV
  unfold tmO at hW
  go_enter Try.func98, Try.ntmps98
  go_upto_region 1 with (fail)
  rw [← hW]
  clear hW hx4
  rcases hd with rfl | rfl
  · go_upto_region 20 with (fail)
    clear c0 c1 c2 x0 x1 x2 x3 x4 x5 x6 x7 fx
    obtain ⟨r0, r1, r2, r3, r4, r5, r6, r7, f0, f1, f2, f3, f4, f5, f6, f7⟩ := row8c HR.out
    go_wp2_with (refine wpList_load_row rfl 28 _ rfl (w.heap.size + 1) rfl 28 _ (0, 0) _ HX.out Try.underlying28 rfl (by kernel_rfl) ?_)
    refine bodyPost_ret (results_c rfl _ _ (w.heap.size + 1 + 1) 28 #[.int .i64 0, .int .i64 0, .string ⟨#[]⟩, .int .i64 0, .int .i64 0, .slice q.A 0 q.c, .slice q.B 0 q.d, .slice q.K 0 q.e] (0, 0) _ rfl (set8 HR.out) Try.underlying28 rfl (by kernel_rfl)) rfl ?_
    have hch := chg_set8 W (w.heap.size + 1 + 1) (.int .i64 0) (.int .i64 0) (.string ⟨#[]⟩) (.int .i64 0) (.int .i64 0) (.slice q.A 0 q.c) (.slice q.B 0 q.d) (.slice q.K 0 q.e)
    refine ⟨q, rfl, HT.out.any rfl rfl rfl, Chg.trans_below HB.out hch (fun _ e => by omega) HB.out.size⟩
  · go_upto_region 16 with (fail)
    clear c0 c1 c2 x0 x1 x2 x3 x4 x5 x6 x7 fx
    obtain ⟨r0, r1, r2, r3, r4, r5, r6, r7, f0, f1, f2, f3, f4, f5, f6, f7⟩ := row8c HR.out
    go_wp2_with (refine wpList_load_row rfl 28 _ rfl (w.heap.size + 1) rfl 28 _ (0, 0) _ HX.out Try.underlying28 rfl (by kernel_rfl) ?_)
    refine bodyPost_ret (results_c rfl _ _ (w.heap.size + 1 + 1) 28 #[.int .i64 0, .int .i64 0, .string ⟨#[]⟩, .int .i64 0, .int .i64 0, .slice q.A 0 q.c, .slice q.B 0 q.d, .slice q.K 0 q.e] (0, 0) _ rfl (set8 HR.out) Try.underlying28 rfl (by kernel_rfl)) rfl ?_
    have hch := chg_set8 W (w.heap.size + 1 + 1) (.int .i64 0) (.int .i64 0) (.string ⟨#[]⟩) (.int .i64 0) (.int .i64 0) (.slice q.A 0 q.c) (.slice q.B 0 q.d) (.slice q.K 0 q.e)
    refine ⟨q, rfl, HT.out.any rfl rfl rfl, Chg.trans_below HB.out hch (fun _ e => by omega) HB.out.size⟩
end Go.Proofs.Ytdboloabpjmgaaa

/-! EnK -/
namespace Go.Proofs.Ytdboloabpjmgaaa
open Go.RowKit Go.Proofs.YtdboloabpjmgaaaW.PrintWords Go.RegionInvYtdboloabpjmgaaa

def enC (p : Pl) (x : Tm × Int) : List Value := tmC p x.1 ++ [.int .i64 x.2]
theorem enC_len (p : Pl) (x : Tm × Int) : (enC p x).length = 9 := rfl
def KidsE (w : World) (S : Nat → Prop) (lo : Nat) (V : Value) (xs : List (Tm × Int)) : Prop :=
  ∃ (cells : List Value) (q : Nat → Pl), w.ownsRow lo 81 9 V xs.length cells ∧
    ∀ (i : Nat) (x : Tm × Int), xs[i]? = some x → (∀ (j : Nat) (v : Value), (enC (q i) x)[j]? = some v → cells[i * 9 + j]? = some v) ∧ TmS w S (q i) x.1
theorem KidsE.nil (w : World) (S : Nat → Prop) (lo : Nat) : KidsE w S lo (.slice none 0 0) [] := ⟨[], fun _ => default, own_nil _ _ _ _, fun i x h => by simp at h⟩
theorem KidsE.later {w w' : World} {S : Nat → Prop} {lo : Nat} {V : Value} {xs : List (Tm × Int)} (h : KidsE w S lo V xs) (hb : Below w.heap.size w w') : KidsE w' S lo V xs := by
  obtain ⟨cells, q, ho, hk⟩ := h
  exact ⟨cells, q, pw_own_below ho hb, fun i x hx => ⟨(hk i x hx).1, (hk i x hx).2.later hb⟩⟩
theorem KidsE.push {w w1 : World} {S : Nat → Prop} {lo : Nat} {V v1 : Value} {xs : List (Tm × Int)} {x : Tm × Int} {p : Pl} {cells : List Value} {q : Nat → Pl} (hS : ∀ b, S b → b < lo) (ho : w.ownsRow lo 81 9 V xs.length cells)
    (hk : ∀ (i : Nat) (x : Tm × Int), xs[i]? = some x → (∀ (j : Nat) (v : Value), (enC (q i) x)[j]? = some v → cells[i * 9 + j]? = some v) ∧ TmS w S (q i) x.1)
    (hx : TmS w S p x.1) (ho1 : w1.ownsRow lo 81 9 v1 (xs.length + 1) (cells ++ enC p x))
    (hg : w.grownBy w1 V.ownBlock) : KidsE w1 S lo v1 (xs ++ [x]) := by
  have keep : ∀ {p : Pl} {y : Tm}, TmS w S p y → TmS w1 S p y := fun h => h.same fun k hs hz => hg.block k hz fun e => by
    have := own_base ho k e.symm
    have := hS k hs
    omega
  have hl := own_len ho
  refine ⟨_, fun i => if i = xs.length then p else q i, by simpa using ho1, fun i y hy => ?_⟩
  rcases Nat.lt_or_ge i xs.length with hi | hi
  · rw [List.getElem?_append_left hi] at hy
    obtain ⟨h1, h2⟩ := hk i y hy
    simp only [if_neg (show ¬ i = xs.length by omega)]
    refine ⟨fun j v hv => ?_, keep h2⟩
    have hj : j < 9 := by have := (List.getElem?_eq_some_iff.1 hv).1; rwa [enC_len] at this
    rw [List.getElem?_append_left (by omega)]
    exact h1 j v hv
  · rw [List.getElem?_append_right hi] at hy
    have hi2 : i = xs.length := by
      cases e : i - xs.length with
      | zero => omega
      | succ j => rw [e] at hy; simp at hy
    subst hi2
    obtain rfl : x = y := by simpa using hy
    simp only [↓reduceIte]
    refine ⟨fun j v hv => ?_, keep hx⟩
    rw [List.getElem?_append_right (by omega), show xs.length * 9 + j - cells.length = j by omega]
    exact hv
def endsP (t : Tm) (d : Int) : List (Tm × Int) := if nK t = 0 then [(t, d)] else ((List.finRange (nK t)).map fun i => endsP (kidF t i) (d + moreZ t i)).flatten
termination_by SizeOf.sizeOf t
decreasing_by exact kidF_lt t i
theorem ends_leaf {t : Tm} {d : Int} (h : nK t = 0) : endsP t d = [(t, d)] := by rw [endsP, if_pos h]
theorem ends_node {t : Tm} {d : Int} (h : nK t ≠ 0) : endsP t d = ((List.finRange (nK t)).map fun i => endsP (kidF t i) (d + moreZ t i)).flatten := by rw [endsP, if_neg h]
end Go.Proofs.Ytdboloabpjmgaaa

/-! RSz -/
namespace Go.Proofs.Ytdboloabpjmgaaa
open Go.RowKit Go.Proofs.YtdboloabpjmgaaaW.PrintWords Go.RegionInvYtdboloabpjmgaaa

set_option maxRecDepth 100000 in
set_option maxHeartbeats 4000000 in
theorem refSize_calls (t : Tm) (p : Pl) (w : World) (hin : TmIn w w.heap.size p t) : Calls Try.prog 21 #[tmV p t] w fun e w' => e = .returned (.int .i64 (measP t).1) ∧ Below w.heap.size w w' := by
  have HIN := Aside0.mk hin
  obtain ⟨W, hW⟩ : ∃ W, W = (w.alloc (tmO p t)).alloc (.cells #[.int .i64 0] 3 (0, 0)) := ⟨_, rfl⟩
  have hb : Below w.heap.size w W := by rw [hW]; exact below_alloc (below_alloc (Below.refl _ _) _) _
  have HX := Aside0.mk (show W.heap[w.heap.size]? = some (tmO p t) by rw [hW]; exact blk_alloc (blk_new _ _) _)
  have HN1 := Aside0.mk (show NumAt W (w.heap.size + 1) 0 by rw [hW]; have := blk_new (w.alloc (tmO p t)) (.cells #[.int .i64 0] 3 (0, 0)); simp only [World.size_alloc] at this; exact this)
  have HB := Aside0.mk hb
  have HV := Aside0.mk (great_ok t)
  clear hin hb
  unfold tmV
  unfold tmO at hW
  go_enter Try.func21, Try.ntmps21
  go_upto_region 2 with (fail)
  rw [← hW]
  clear hW
  by_cases hk : okT t
  · have HM := Aside0.mk (show (measP t).1 = (sizeT t : Int) by rw [meas_yes hk])
    have HE := Aside0.mk (show cntP t 1 0 = (true, (sizeT t : Int)) by rw [cnt_ok _ t (Nat.lt_succ_self _) 1 0 (by have := hk.2; omega) (by have := hk.1; omega)]; rw [Int.zero_add])
    clear hk
    go_upto_region 4 with (first
      | (refine wpList_load_row rfl 28 _ rfl w.heap.size rfl 28 _ (0, 0) _ HX.out Try.underlying28 rfl (by kernel_rfl) ?_)
      | (go_at_call 67; go_must (refine (refcount_calls _ t (Nat.lt_succ_self _) p 1 0 (w.heap.size + 1) w.heap.size W (HIN.out.stay HB.out) HN1.out (by omega) (by decide) (by decide) (by decide) (by decide)).mono ?_; rintro e w2 ⟨rfl, hN, hC⟩; rw [HE.out] at hN ⊢; have HN2 := Aside0.mk hN; have HB2 := Aside0.mk (Chg.trans_below HB.out hC (fun k h => by omega) HB.out.size); clear hN hC)))
    have r1 := NumAt.cell HN2.out
    go_wp2
    go_ret
    rw [HM.out]
    exact ⟨rfl, HB2.out⟩
  · have HM := Aside0.mk (show (measP t).1 = 0 by rw [meas_no hk])
    have HE := Aside0.mk (show (cntP t 1 0).1 = false by rw [HV.out, decide_eq_false hk])
    clear hk
    go_wp2_with (first
      | (refine wpList_load_row rfl 28 _ rfl w.heap.size rfl 28 _ (0, 0) _ HX.out Try.underlying28 rfl (by kernel_rfl) ?_)
      | (go_at_call 67; go_must (refine (refcount_calls _ t (Nat.lt_succ_self _) p 1 0 (w.heap.size + 1) w.heap.size W (HIN.out.stay HB.out) HN1.out (by omega) (by decide) (by decide) (by decide) (by decide)).mono ?_; rintro e w2 ⟨rfl, -, hC⟩; rw [HE.out]; have HB2 := Aside0.mk (Chg.trans_below HB.out hC (fun k h => by omega) HB.out.size); clear hC)))
    go_ret
    rw [HM.out]
    exact ⟨rfl, HB2.out⟩
end Go.Proofs.Ytdboloabpjmgaaa

/-! Ends -/
namespace Go.Proofs.Ytdboloabpjmgaaa
open Go.RowKit Go.Proofs.YtdboloabpjmgaaaW.PrintWords Go.RegionInvYtdboloabpjmgaaa

set_option maxHeartbeats 4000000 in
theorem refbinds_calls (t : Tm) (i : Nat) (k : Int) (hk : t.kind = k) (w : World) : Calls Try.prog 100 #[.int .i64 k, .int .i64 i] w fun e w' => e = .returned (.int .i64 (moreZ t i)) ∧ w' = w := by
  obtain ⟨m, hm⟩ : ∃ m, moreZ t i = m := ⟨_, rfl⟩
  obtain ⟨ar, har⟩ : ∃ x, arZ k = x := ⟨_, rfl⟩
  have HAC := Aside0.mk (show ∀ w, Calls Try.prog 39 #[.int .i64 k] w fun e w' => e = .returned (.int .i64 ar) ∧ w' = w from fun w => by rw [← har]; exact refkids_calls _ _)
  have HM := Aside0.mk hm
  have hr := arZ_in k
  rw [har] at hr
  have HE := Aside0.mk (show m = if (i : Int) = ar - 1 ∧ k ≠ 6 then 1 else 0 by rw [← hm]; unfold moreZ; rw [hk, har])
  rw [hm]
  clear hm har hk
  go_enter Try.func100, Try.ntmps100
  by_cases h6 : k = 6
  · have b1 : (k == 6) = true := by simp [h6]
    have b2 : (k != 6) = false := by simp [h6]
    have HZ := Aside0.mk (show m = 0 by rw [HE.out, if_neg (fun h => h.2 h6)])
    clear h6
    go_wp2
    go_ret
    rw [HZ.out]
    exact ⟨rfl, rfl⟩
  · have b1 : (k == 6) = false := by simp [h6]
    have b2 : (k != 6) = true := by simp [h6]
    by_cases hi : (i : Int) = ar - 1
    · have b3 : ((i : Int) == ar - 1) = true := by simp [hi]
      have HZ := Aside0.mk (show m = 1 by rw [HE.out, if_pos ⟨hi, h6⟩])
      clear h6 hi
      go_wp2_with (go_at_call 39; go_must (refine (HAC.out _).mono ?_; rintro e w2 ⟨rfl, rfl⟩))
      go_ret
      rw [HZ.out]
      exact ⟨rfl, rfl⟩
    · have b3 : ((i : Int) == ar - 1) = false := by simp [hi]
      have HZ := Aside0.mk (show m = 0 by rw [HE.out, if_neg (fun h => hi h.1)])
      clear h6 hi
      go_wp2_with (go_at_call 39; go_must (refine (HAC.out _).mono ?_; rintro e w2 ⟨rfl, rfl⟩))
      go_ret
      rw [HZ.out]
      exact ⟨rfl, rfl⟩
theorem infoEn : (Try.prog.info? 81).map (fun i => (i.zero, i.size, i.bytes)) = some (some (.agg #[.int .i64 0, .int .i64 0, .string ⟨#[]⟩, .int .i64 0, .int .i64 0, .slice none 0 0, .slice none 0 0, .slice none 0 0, .int .i64 0]), 9, 128) := by kernel_rfl
end Go.Proofs.Ytdboloabpjmgaaa

/-! EndR -/
namespace Go.Proofs.Ytdboloabpjmgaaa
open Go.RowKit Go.Proofs.YtdboloabpjmgaaaW.PrintWords Go.RegionInvYtdboloabpjmgaaa Go.RegionEYtdboloabpjmgaaa
set_option linter.unusedVariables false

def EndsPost (w : World) (B lo : Nat) (V : Value) (ys : List (Tm × Int)) (e : Ending) (w' : World) : Prop := ∃ V', e = .returned V' ∧ KidsE w' (fun k => k < B) lo V' ys ∧ Grew V V' w w'
def EnF (B lo : Nat) (ys : List (Tm × Int)) (v : Value) (w : World) (O : Nat → Prop) : Prop := KidsE w (fun k => k < B) lo v ys ∧ ∀ k, v.ownBlock = some k → O k
theorem KidsE.same {w w' : World} {S : Nat → Prop} {lo : Nat} {V : Value} {xs : List (Tm × Int)} (h : KidsE w S lo V xs) (h1 : ∀ k, V.ownBlock = some k → w'.heap[k]? = w.heap[k]?) (h2 : ∀ k, S k → k < w.heap.size → w'.heap[k]? = w.heap[k]?) : KidsE w' S lo V xs := by
  obtain ⟨cells, q, ho, hk⟩ := h
  exact ⟨cells, q, ownsRow_same ho h1, fun i x hx => ⟨(hk i x hx).1, (hk i x hx).2.same h2⟩⟩
theorem KidsE.base {w : World} {S : Nat → Prop} {lo : Nat} {V : Value} {xs : List (Tm × Int)} (h : KidsE w S lo V xs) {k : Nat} (hk : V.ownBlock = some k) : lo ≤ k ∧ k < w.heap.size := by
  obtain ⟨cells, q, ho, _⟩ := h
  exact ⟨own_base ho k hk, own_lt ho k hk⟩
theorem stableE_en {w0 : World} {E : Nat → Nat → Prop} {B lo : Nat} {ys : List (Tm × Int)} (hT : ∀ k, k < B → Fix w0 E k) : StableE w0 E (EnF B lo ys) := by
  rintro v w w' O ⟨h, hO⟩ hz hk
  exact ⟨h.same (fun k e => hk k (h.base e).2 (.inr (hO k e))) (fun k hk' hz' => hk k hz' (.inl (hT k hk'))), hO⟩

def en_ops : List Oper := [
  { dst := some 35, op := Go.Op.load 28 (Go.Operand.tmp 8), type := 28, pos := "ref.go:223", after := #[], guard := none },
  { dst := some 36, op := Go.Op.move (Go.Operand.tmp 1), type := 3, pos := "ref.go:223", after := #[], guard := none },
  { dst := some 37, op := Go.Op.fieldAddr 28 (Go.Operand.tmp 3) 0, type := 0, pos := "ref.go:223", after := #[], guard := none },
  { dst := some 38, op := Go.Op.load 3 (Go.Operand.tmp 37), type := 3, pos := "ref.go:223", after := #[{ on := 2, ground := Go.Ground.data }], guard := none },
  { dst := some 39, op := Go.Op.move (Go.Operand.tmp 7), type := 3, pos := "ref.go:223", after := #[], guard := none },
  { dst := some 40, op := Go.Op.call { callee := Go.Callee.value (Go.Operand.func 100), args := #[Go.Operand.tmp 38, Go.Operand.tmp 39], argTypes := #[3, 3] }, type := 3, pos := "ref.go:223", after := #[{ on := 3, ground := Go.Ground.data }, { on := 4, ground := Go.Ground.data }], guard := none },
  { dst := some 41, op := Go.Op.binOp Go.BinOp.add 3 (Go.Operand.tmp 36) (Go.Operand.tmp 40) 3, type := 3, pos := "ref.go:223", after := #[{ on := 1, ground := Go.Ground.data }, { on := 5, ground := Go.Ground.data }], guard := none },
  { dst := some 42, op := Go.Op.move (Go.Operand.tmp 2), type := 78, pos := "ref.go:223", after := #[], guard := none },
  { dst := some 43, op := Go.Op.call { callee := Go.Callee.value (Go.Operand.func 80), args := #[Go.Operand.tmp 35, Go.Operand.tmp 41, Go.Operand.tmp 42], argTypes := #[28, 3, 78] }, type := 78, pos := "ref.go:223", after := #[{ on := 0, ground := Go.Ground.data }, { on := 6, ground := Go.Ground.data }, { on := 7, ground := Go.Ground.data }, { on := 5, ground := Go.Ground.chain }], guard := none },
  { dst := some 2, op := Go.Op.assign (Go.Operand.tmp 43), type := 78, pos := "ref.go:223", after := #[{ on := 8, ground := Go.Ground.data }, { on := 8, ground := Go.Ground.chain }, { on := 0, ground := Go.Ground.phase }, { on := 1, ground := Go.Ground.phase }, { on := 2, ground := Go.Ground.phase }, { on := 3, ground := Go.Ground.phase }, { on := 4, ground := Go.Ground.phase }, { on := 5, ground := Go.Ground.phase }, { on := 6, ground := Go.Ground.phase }, { on := 7, ground := Go.Ground.phase }, { on := 8, ground := Go.Ground.phase }], guard := none }]
def en_F (w0 : World) (Bx Tb lo B : Nat) (q : Pl) (x : Tm) (p : Pl) (t : Tm) (i : Nat) (d : Int) (l : Value) (ys zs : List (Tm × Int)) : Nat → (Nat → Value) → Value → World → (Nat → Prop) → Prop := fun rix => match rix with
  | 0 => fun _ v _ _ => v = tmV q x
  | 1 => fun _ v _ _ => v = .int .i64 d
  | 2 => fun _ v _ _ => v = .pointer (some ⟨Tb, 0, none⟩)
  | 3 => fun _ v _ _ => v = .int .i64 t.kind
  | 4 => fun _ v _ _ => v = .int .i64 i
  | 5 => fun _ v _ _ => v = .int .i64 (moreZ t i)
  | 6 => fun _ v _ _ => v = .int .i64 (d + moreZ t i)
  | 7 => fun _ v _ _ => v = l
  | 8 => fun τ v w O => EnF B lo zs v w O
  | 9 => fun τ v w O => EnF B lo zs v w O
  | _ => fun _ _ _ _ => True
def en_C : Nat → List Nat := fun rix => match rix with
  | 9 => [8]
  | _ => []
theorem en_nw1 : nwB en_ops.toArray 1 = true := by kernel_rfl
theorem en_nw3 : nwB en_ops.toArray 3 = true := by kernel_rfl
theorem en_nw7 : nwB en_ops.toArray 7 = true := by kernel_rfl
theorem en_nw8 : nwB en_ops.toArray 8 = true := by kernel_rfl
set_option maxRecDepth 100000 in
set_option maxHeartbeats 8000000 in
theorem en_obs (w0 : World) (Bx Tb lo B : Nat) (q : Pl) (x : Tm) (p : Pl) (t : Tm) (i : Nat) (d : Int) (l : Value) (ys zs : List (Tm × Int)) (hB : w0.heap[Bx]? = some (tmO q x)) (hT : w0.heap[Tb]? = some (tmO p t)) (hin : TmIn w0 B q x) (hK : KidsE w0 (fun k => k < B) lo l ys) (hBl : B ≤ lo) (hlo : lo ≤ w0.heap.size) (hVB : l.ownBlock ≠ some Bx) (hVT : l.ownBlock ≠ some Tb) (hr : -9223372036854775808 ≤ d + moreZ t i ∧ d + moreZ t i ≤ 9223372036854775807) (hIH : ∀ w, w0.heap.size ≤ w.heap.size → TmIn w B q x → KidsE w (fun k => k < B) lo l ys → Calls Try.prog 80 #[tmV q x, .int .i64 (d + moreZ t i), l] w (EndsPost w B lo l zs)) (Q : Exit → Act → World → Prop) (a0 : Act) (hi1 : a0.tmps.getD 1 undef = .int .i64 d) (hi2 : a0.tmps.getD 2 undef = l) (hi3 : a0.tmps.getD 3 undef = .pointer (some ⟨Tb, 0, none⟩)) (hi7 : a0.tmps.getD 7 undef = .int .i64 i) (hi8 : a0.tmps.getD 8 undef = .pointer (some ⟨Bx, 0, none⟩)) :
    ObsE Try.prog en_ops.toArray Q (est2 8 8 (fun k => l.ownBlock = some k) (fun _ => False)) en_C (en_F w0 Bx Tb lo B q x p t i d l ys zs) a0 w0 en_ops.toArray.toList 0 := by
  have nw1 := en_nw1
  have nw3 := en_nw3
  have nw7 := en_nw7
  have nw8 := en_nw8
  refine ⟨?_, ?_, ?_, ?_, ?_, ?_, ?_, ?_, ?_, ?_, trivial⟩
  · refine ⟨⟨fun τ => stableE_det _, leans_not⟩, ?_⟩
    intro a w O hk
    have e8 : a.eval (.tmp 8) = .pointer (some ⟨Bx, 0, none⟩) := (hk.init 8 (initialB_of_nw nw8)).trans hi8
    have xB := (hk.fix Bx (est2_fix (blk_lt hB) (fun e => hVB e) (fun e => e.elim))).trans hB
    exact obE_loadRow rfl e8 xB Try.underlying28 rfl (by kernel_rfl) (wanted_none rfl) rfl
  · refine ⟨⟨fun τ => stableE_det _, leans_not⟩, ?_⟩
    intro a w O hk
    have e1 : a.eval (.tmp 1) = .int .i64 d := (hk.init 1 (initialB_of_nw nw1)).trans hi1
    exact toE (ob_move rfl e1 (wanted_none rfl) rfl)
  · refine ⟨⟨fun τ => stableE_det _, leans_not⟩, ?_⟩
    intro a w O hk
    have e3 : a.eval (.tmp 3) = .pointer (some ⟨Tb, 0, none⟩) := (hk.init 3 (initialB_of_nw nw3)).trans hi3
    exact obE_run (wanted_none rfl) (by unfold execOp; simp only []; rw [e3]; go_simp) rfl
  · refine ⟨⟨fun τ => stableE_det _, leans_not⟩, ?_⟩
    intro a w O hk
    have e37 : a.eval (.tmp 37) = .pointer (some ⟨Tb, 0, none⟩) := hk.fact 2 _ 37 rfl rfl rfl rfl
    have xT := (hk.fix Tb (est2_fix (blk_lt hT) (fun e => hVT e) (fun e => e.elim))).trans hT
    obtain ⟨p0, p1, p2, p3, p4, p5, p6, p7⟩ := row8 xT
    exact obE_run (wanted_none rfl) (by unfold execOp; simp only []; rw [e37]; go_simp) rfl
  · refine ⟨⟨fun τ => stableE_det _, leans_not⟩, ?_⟩
    intro a w O hk
    have e7 : a.eval (.tmp 7) = .int .i64 i := (hk.init 7 (initialB_of_nw nw7)).trans hi7
    exact toE (ob_move rfl e7 (wanted_none rfl) rfl)
  · refine ⟨⟨fun τ => stableE_det _, leans_not⟩, ?_⟩
    intro a w O hk
    have e38 : a.eval (.tmp 38) = .int .i64 t.kind := hk.fact 3 _ 38 rfl rfl rfl rfl
    have e39 : a.eval (.tmp 39) = .int .i64 i := hk.fact 4 _ 39 rfl rfl rfl rfl
    exact obE_callV #[.int .i64 t.kind, .int .i64 i] rfl rfl rfl rfl (by simp only [List.map_cons, List.map_nil]; rw [e38, e39]) (wanted_none rfl) ((refbinds_calls t i _ rfl w).mono fun e w' h => ⟨h.1, h.2 ▸ Below.refl _ _⟩)
  · refine ⟨⟨fun τ => stableE_det _, leans_not⟩, ?_⟩
    intro a w O hk
    have e36 : a.eval (.tmp 36) = .int .i64 d := hk.fact 1 _ 36 rfl rfl rfl rfl
    have e40 : a.eval (.tmp 40) = .int .i64 (moreZ t i) := hk.fact 5 _ 40 rfl rfl rfl rfl
    have hw9 : IntKind.i64.wrap (d + moreZ t i) = d + moreZ t i := IntWalk.i64_in _ hr
    exact obE_run (wanted_none rfl) (by unfold execOp; simp only []; rw [e36, e40]; go_simp) rfl
  · refine ⟨⟨fun τ => stableE_det _, leans_not⟩, ?_⟩
    intro a w O hk
    have e2 : a.eval (.tmp 2) = l := (hk.init 2 rfl).trans hi2
    exact toE (ob_move rfl e2 (wanted_none rfl) rfl)
  · refine ⟨⟨fun τ => stableE_en (fun k hk' => est2_fix (by have hk' : k < B := hk'; omega) (fun e => by have := hK.base e; have hk' : k < B := hk'; omega) (fun e => e.elim)), leans_not⟩, ?_⟩
    intro a w O hk
    have e35 : a.eval (.tmp 35) = tmV q x := hk.fact 0 _ 35 rfl rfl rfl rfl
    have e41 : a.eval (.tmp 41) = .int .i64 (d + moreZ t i) := hk.fact 6 _ 41 rfl rfl rfl rfl
    have e42 : a.eval (.tmp 42) = l := hk.fact 7 _ 42 rfl rfl rfl rfl
    have hKw := hK.same (w' := w) (fun k e => hk.est 8 _ rfl (.inl rfl) k (.inl ⟨rfl, e⟩)) (fun k hk' _ => hk.fix k (est2_fix (by have hk1 : k < B := hk'; omega) (fun e => by have := hK.base e; have hk1 : k < B := hk'; omega) (fun e => e.elim)))
    have hinw := hin.same (w' := w) (fun k hk' _ => hk.fix k (est2_fix (by have hk1 : k < B := hk'; omega) (fun e => by have := hK.base e; have hk1 : k < B := hk'; omega) (fun e => e.elim)))
    refine obE_call #[tmV q x, .int .i64 (d + moreZ t i), l] rfl rfl rfl rfl (by simp only [List.map_cons, List.map_nil]; rw [e35, e41, e42]) (wanted_none rfl) ((hIH w hk.world.size hinw hKw).mono ?_)
    rintro e w' ⟨V', rfl, hE, hG⟩
    exact ⟨V', fun k => V'.ownBlock = some k, rfl, ⟨hE, fun k h => h⟩, hG.1.mono (fun k h => .inr (.inl ⟨rfl, h⟩)), fun k h => (hG.2 k h).elim (fun h => .inl (.inr (.inl ⟨rfl, h⟩))) (fun h2 => .inr ⟨h2, (hE.base h).2⟩)⟩
  · refine ⟨⟨fun τ => stableE_en (fun k hk' => est2_fix (by have hk' : k < B := hk'; omega) (fun e => by have := hK.base e; have hk' : k < B := hk'; omega) (fun e => e.elim)), leans_not⟩, ?_⟩
    intro a w O hk
    have f43 := hk.fact 8 _ 43 rfl rfl rfl rfl
    have g43 := hk.owns 8 rfl rfl
    exact toE (ob_assignO (O 8) rfl rfl (wanted_none rfl) f43 (fun k h => ⟨8, by simp [en_C], h⟩))
set_option maxRecDepth 100000 in
set_option maxHeartbeats 8000000 in
theorem en_region {Q : Exit → Act → World → Prop} {id : Nat} (w0 : World) (Bx Tb lo B : Nat) (q : Pl) (x : Tm) (p : Pl) (t : Tm) (i : Nat) (d : Int) (l : Value) (ys zs : List (Tm × Int)) {s0 s4 s5 s6 s9 s10 s11 s12 s13 s14 s15 s16 s17 s18 s19 s20 s21 s22 s23 s24 s25 s26 s27 s28 s29 s30 s31 s32 s33 s34 s35 s36 s37 s38 s39 s40 s41 s42 s43 s44 s45 : Value} (hB : w0.heap[Bx]? = some (tmO q x)) (hT : w0.heap[Tb]? = some (tmO p t)) (hin : TmIn w0 B q x) (hK : KidsE w0 (fun k => k < B) lo l ys) (hBl : B ≤ lo) (hlo : lo ≤ w0.heap.size) (hVB : l.ownBlock ≠ some Bx) (hVT : l.ownBlock ≠ some Tb) (hr : -9223372036854775808 ≤ d + moreZ t i ∧ d + moreZ t i ≤ 9223372036854775807) (hIH : ∀ w, w0.heap.size ≤ w.heap.size → TmIn w B q x → KidsE w (fun k => k < B) lo l ys → Calls Try.prog 80 #[tmV q x, .int .i64 (d + moreZ t i), l] w (EndsPost w B lo l zs))
    (hend : ∀ (w' : World) (u2 : Value) (u43 : Value) (O9 : Nat → Prop), Chg (fun k => (fun k => l.ownBlock = some k) k ∨ (fun _ => False) k) w0 w' → (EnF B lo zs u2 w' O9) → (∀ k, O9 k → k < w'.heap.size ∧ ¬ Fix w0 (est2 8 8 (fun k => l.ownBlock = some k) (fun _ => False)) k) → Q .normal { tmps := (s0 :: (.int .i64 d) :: u2 :: (.pointer (some ⟨Tb, 0, none⟩)) :: s4 :: s5 :: s6 :: (.int .i64 i) :: (.pointer (some ⟨Bx, 0, none⟩)) :: s9 :: s10 :: s11 :: s12 :: s13 :: s14 :: s15 :: s16 :: s17 :: s18 :: s19 :: s20 :: s21 :: s22 :: s23 :: s24 :: s25 :: s26 :: s27 :: s28 :: s29 :: s30 :: s31 :: s32 :: s33 :: s34 :: (tmV q x) :: (.int .i64 d) :: (.pointer (some ⟨Tb, 0, none⟩)) :: (.int .i64 t.kind) :: (.int .i64 i) :: (.int .i64 (moreZ t i)) :: (.int .i64 (d + moreZ t i)) :: l :: u43 :: s44 :: s45 :: [] : List Value).toArray, defers := [] } w') :
    (Code.region id en_ops.toArray true).wp Try.prog Q { tmps := (s0 :: (.int .i64 d) :: l :: (.pointer (some ⟨Tb, 0, none⟩)) :: s4 :: s5 :: s6 :: (.int .i64 i) :: (.pointer (some ⟨Bx, 0, none⟩)) :: s9 :: s10 :: s11 :: s12 :: s13 :: s14 :: s15 :: s16 :: s17 :: s18 :: s19 :: s20 :: s21 :: s22 :: s23 :: s24 :: s25 :: s26 :: s27 :: s28 :: s29 :: s30 :: s31 :: s32 :: s33 :: s34 :: s35 :: s36 :: s37 :: s38 :: s39 :: s40 :: s41 :: s42 :: s43 :: s44 :: s45 :: [] : List Value).toArray, defers := [] } w0 := by
  refine wp_region_est (by kernel_rfl) (est2 8 8 (fun k => l.ownBlock = some k) (fun _ => False)) en_C (en_F w0 Bx Tb lo B q x p t i d l ys zs) (est2_dis (fun k h h2 => h2)) (est2_range (fun k hk => (hK.base hk).2) (fun k hk => hk.elim)) (by rfl) (by kernel_rfl) (en_obs w0.drew Bx Tb lo B q x p t i d l ys zs hB hT (TmS.same hin (fun _ _ _ => rfl)) (hK.same (fun _ _ => rfl) (fun _ _ _ => rfl)) hBl hlo hVB hVT hr (fun w h1 h2 h3 => hIH w h1 h2 h3) _ _ rfl rfl rfl rfl rfl) ?_
  intro a w' O hd hs hb hf hf2 ha hsame
  have hl := slots_eq (ops := en_ops.toArray) [(2, a.tmps.getD 2 undef), (35, tmV q x), (36, .int .i64 d), (37, .pointer (some ⟨Tb, 0, none⟩)), (38, .int .i64 t.kind), (39, .int .i64 i), (40, .int .i64 (moreZ t i)), (41, .int .i64 (d + moreZ t i)), (42, l), (43, a.tmps.getD 43 undef)] (show a.tmps.size = 46 from hs) (fun i h => hsame i h) ⟨rfl, (hf 0 _ 35 rfl rfl (by decide)).1, (hf 1 _ 36 rfl rfl (by decide)).1, (hf 2 _ 37 rfl rfl (by decide)).1, (hf 3 _ 38 rfl rfl (by decide)).1, (hf 4 _ 39 rfl rfl (by decide)).1, (hf 5 _ 40 rfl rfl (by decide)).1, (hf 6 _ 41 rfl rfl (by decide)).1, (hf 7 _ 42 rfl rfl (by decide)).1, rfl, trivial⟩ (by kernel_rfl)
  obtain ⟨tmps, defers⟩ := a
  obtain rfl : defers = [] := hd
  have hl' : tmps = _ := hl
  rw [hl']
  have hb' := est2_chg hb
  refine Eq.mp ?_ (hend w' (tmps.getD 2 undef) (tmps.getD 43 undef) (O 9) ⟨hb'.os, hb'.tape, hb'.output, hb'.size, hb'.block⟩ (hf 9 _ 2 rfl rfl (by decide)).1 (hf 9 _ 2 rfl rfl (by decide)).2)
  kernel_rfl

end Go.Proofs.Ytdboloabpjmgaaa

/-! RwR -/
namespace Go.Proofs.Ytdboloabpjmgaaa
open Go.RowKit Go.Proofs.YtdboloabpjmgaaaW.PrintWords Go.RegionInvYtdboloabpjmgaaa Go.RegionEYtdboloabpjmgaaa
set_option linter.unusedVariables false

section
variable {ops : Array Oper} {Q : Exit → Act → World → Prop} {R : Nat → Prop} {a : Act} {w : World} {o : Oper}
theorem obE_tmRow {lo n : Nat} {cells : List Value} {v0 : Value} {x : Tm} {q : Pl} {O2 : Nat → Prop} (hw : Region.wanted o (yielded ops a.tmps) = true) (hO : ∀ k, v0.ownBlock = some k → R k) (hx : TmS w O2 q x) (hO2 : ∀ k, O2 k → R k ∧ k < w.heap.size ∧ v0.ownBlock ≠ some k)
    (h : ∀ Q', (∀ v1 w1, w1.ownsRow lo 28 8 v1 (n + 1) (cells ++ tmC q x) → w.grownBy w1 v0.ownBlock → (v1.ownBlock = v0.ownBlock ∨ ∃ b, v1.ownBlock = some b ∧ w.heap.size ≤ b) → wpList Try.prog ops Q' [] (a.put o.dst v1) w1) → wpList Try.prog ops Q' [{ o with guard := none }] a w) :
    OwesE Try.prog ops Q R (fun v w O => RowT (fun _ => False) lo n cells x v w O) o a w := by
  refine obE_list hw (h _ fun v1 w1 ho hg hat => ⟨rfl, v1, fun k => v1.ownBlock = some k ∨ O2 k, rfl, ⟨q, ho, fun _ h => .inl h, ?_⟩, (Grew.of_append hg hat).1.mono fun k hk => hO k hk, fun k hk => ?_⟩)
  · refine (hx.same fun k hk hz => hg.block k hz fun e => (hO2 k hk).2.2 e.symm).mono fun k hk _ => .inr ⟨.inr hk, fun e => ?_⟩
    rcases hat with hat | ⟨b, hb, hlt⟩
    · exact (hO2 k hk).2.2 (hat.symm.trans e)
    · rw [hb] at e
      have := (hO2 k hk).2.1
      injection e with e
      omega
  · rcases hk with hk | hk
    · rcases (Grew.of_append hg hat).2 k hk with h' | h'
      · exact .inl (hO k h')
      · exact .inr ⟨h', own_lt ho k hk⟩
    · exact .inl (hO2 k hk).1
end

theorem chg_undrew {S : Nat → Prop} {w0 w : World} (h : Chg S w0.drew w) : Chg S w0 w := chg_trans (Chg.of_below (below_drew (Below.refl _ _))) h

def rw2_ops : List Oper := [
  { dst := some 18, op := Go.Op.load 71 (Go.Operand.tmp 3), type := 71, pos := "ref.go:202", after := #[], guard := none },
  { dst := some 19, op := Go.Op.load 28 (Go.Operand.tmp 4), type := 28, pos := "ref.go:202", after := #[], guard := none },
  { dst := some 20, op := Go.Op.call { callee := Go.Callee.value (Go.Operand.func 99), args := #[Go.Operand.tmp 19], argTypes := #[28] }, type := 28, pos := "ref.go:202", after := #[{ on := 1, ground := Go.Ground.data }], guard := none },
  { dst := some 21, op := Go.Op.move (Go.Operand.tmp 2), type := 3, pos := "ref.go:202", after := #[], guard := none },
  { dst := some 22, op := Go.Op.call { callee := Go.Callee.value (Go.Operand.func 98), args := #[Go.Operand.tmp 18, Go.Operand.tmp 20, Go.Operand.tmp 21], argTypes := #[71, 28, 3] }, type := 28, pos := "ref.go:202", after := #[{ on := 0, ground := Go.Ground.data }, { on := 2, ground := Go.Ground.data }, { on := 3, ground := Go.Ground.data }, { on := 2, ground := Go.Ground.chain }], guard := none },
  { dst := none, op := Go.Op.store 28 (Go.Operand.tmp 6) (Go.Operand.tmp 22), type := 0, pos := "ref.go:202", after := #[{ on := 4, ground := Go.Ground.data }, { on := 4, ground := Go.Ground.chain }, { on := 0, ground := Go.Ground.phase }, { on := 1, ground := Go.Ground.phase }, { on := 2, ground := Go.Ground.phase }, { on := 3, ground := Go.Ground.phase }, { on := 4, ground := Go.Ground.phase }], guard := none }]
def rw2_F (w0 : World) (Cb Tb Rb : Nat) (dd by_ : Int) (cp : Pl) (cv : Tm) (p : Pl) (t y : Tm) : Nat → (Nat → Value) → Value → World → (Nat → Prop) → Prop := fun rix => match rix with
  | 0 => fun _ v _ _ => v = chV dd 0 by_ cp cv
  | 1 => fun _ v _ _ => v = tmV p t
  | 2 => fun _ v _ _ => v = tmV plz (bareT t)
  | 3 => fun _ v _ _ => v = .int .i64 0
  | 4 => fun τ v w O => TmO (fun _ => False) y v w O
  | 5 => fun τ v w O => ∃ p, (.pointer (some ⟨Rb, 0, none⟩) : Value) = .pointer (some ⟨p, 0, none⟩) ∧ TmBox p (fun _ => False) y w O
  | _ => fun _ _ _ _ => True
def rw2_C : Nat → List Nat := fun rix => match rix with
  | 5 => [4]
  | _ => []
theorem rw2_nw2 : nwB rw2_ops.toArray 2 = true := by kernel_rfl
theorem rw2_nw3 : nwB rw2_ops.toArray 3 = true := by kernel_rfl
theorem rw2_nw4 : nwB rw2_ops.toArray 4 = true := by kernel_rfl
theorem rw2_nw6 : nwB rw2_ops.toArray 6 = true := by kernel_rfl
set_option maxRecDepth 100000 in
set_option maxHeartbeats 8000000 in
theorem rw2_obs (w0 : World) (Cb Tb Rb : Nat) (dd by_ : Int) (cp : Pl) (cv : Tm) (p : Pl) (t y : Tm) (hC : w0.heap[Cb]? = some (.cells (chC dd 0 by_ cp cv) 71 (0, 0))) (hT : w0.heap[Tb]? = some (tmO p t)) (hR : w0.heap[Rb]? = some (tmO plz zeroT)) (hCR : Cb ≠ Rb) (hTR : Tb ≠ Rb) (h2 : t.kind ≠ 2) (h7 : t.kind ≠ 7) (hlen : t.kids.length ≤ 9223372036854775807) (hn : -9223372036854775808 ≤ t.num ∧ t.num ≤ 9223372036854775807) (hlf : ∀ w, Chg (fun k => k = Rb) w0 w → Calls Try.prog 98 #[chV dd 0 by_ cp cv, tmV plz (bareT t), .int .i64 0] w (TmGot w (fun _ => False) y)) (Q : Exit → Act → World → Prop) (a0 : Act) (hi2 : a0.tmps.getD 2 undef = .int .i64 0) (hi3 : a0.tmps.getD 3 undef = .pointer (some ⟨Cb, 0, none⟩)) (hi4 : a0.tmps.getD 4 undef = .pointer (some ⟨Tb, 0, none⟩)) (hi6 : a0.tmps.getD 6 undef = .pointer (some ⟨Rb, 0, none⟩)) :
    ObsE Try.prog rw2_ops.toArray Q (est2 5 0 (fun k => k = Rb) (fun _ => False)) rw2_C (rw2_F w0 Cb Tb Rb dd by_ cp cv p t y) a0 w0 rw2_ops.toArray.toList 0 := by
  have nw2 := rw2_nw2
  have nw3 := rw2_nw3
  have nw4 := rw2_nw4
  have nw6 := rw2_nw6
  refine ⟨?_, ?_, ?_, ?_, ?_, ?_, trivial⟩
  · refine ⟨⟨fun τ => stableE_det _, leans_not⟩, ?_⟩
    intro a w O hk
    have e3 : a.eval (.tmp 3) = .pointer (some ⟨Cb, 0, none⟩) := (hk.init 3 (initialB_of_nw nw3)).trans hi3
    have x3 := (hk.fix Cb (est2_fix (blk_lt hC) (fun e => by have e : Cb = Rb := e; omega) (fun e => e.elim))).trans hC
    exact obE_loadRow rfl e3 x3 Try.underlying71 rfl (by kernel_rfl) (wanted_none rfl) rfl
  · refine ⟨⟨fun τ => stableE_det _, leans_not⟩, ?_⟩
    intro a w O hk
    have e4 : a.eval (.tmp 4) = .pointer (some ⟨Tb, 0, none⟩) := (hk.init 4 (initialB_of_nw nw4)).trans hi4
    have x4 := (hk.fix Tb (est2_fix (blk_lt hT) (fun e => by have e : Tb = Rb := e; omega) (fun e => e.elim))).trans hT
    exact obE_loadRow rfl e4 x4 Try.underlying28 rfl (by kernel_rfl) (wanted_none rfl) rfl
  · refine ⟨⟨fun τ => stableE_det _, leans_not⟩, ?_⟩
    intro a w O hk
    have e19 : a.eval (.tmp 19) = tmV p t := hk.fact 1 _ 19 rfl rfl rfl rfl
    exact obE_callV #[tmV p t] rfl rfl rfl rfl (by simp only [List.map_cons, List.map_nil]; rw [e19]) (wanted_none rfl) (bare_calls t p w h2 h7 hlen hn)
  · refine ⟨⟨fun τ => stableE_det _, leans_not⟩, ?_⟩
    intro a w O hk
    have e2 : a.eval (.tmp 2) = .int .i64 0 := (hk.init 2 (initialB_of_nw nw2)).trans hi2
    exact toE (ob_move rfl e2 (wanted_none rfl) rfl)
  · refine ⟨⟨fun τ => stableE_tm (fun k h => h.elim), leans_not⟩, ?_⟩
    intro a w O hk
    have e18 : a.eval (.tmp 18) = chV dd 0 by_ cp cv := hk.fact 0 _ 18 rfl rfl rfl rfl
    have e20 : a.eval (.tmp 20) = tmV plz (bareT t) := hk.fact 2 _ 20 rfl rfl rfl rfl
    have e21 : a.eval (.tmp 21) = .int .i64 0 := hk.fact 3 _ 21 rfl rfl rfl rfl
    exact obE_tmCall #[chV dd 0 by_ cp cv, tmV plz (bareT t), .int .i64 0] rfl rfl rfl rfl (by simp only [List.map_cons, List.map_nil]; rw [e18, e20, e21]) (wanted_none rfl) ((hlf w (hk.world.mono fun k ⟨i, h⟩ => h.elim (fun h => h.2) fun h => h.2.elim)).mono fun e w' ⟨q9, h1, h2, h3⟩ => ⟨q9, h1, h2.mono fun k h _ => h.elim False.elim .inr, h3⟩)
  · refine ⟨⟨fun τ => stableE_ex fun p v w w' O h hz hk => ⟨h.1, stableE_tmbox (fun k h => h.elim) v w w' O h.2 hz hk⟩, leans_not⟩, ?_⟩
    intro a w O hk
    have e6 : a.eval (.tmp 6) = .pointer (some ⟨Rb, 0, none⟩) := (hk.init 6 (initialB_of_nw nw6)).trans hi6
    have f22 := hk.fact 4 _ 22 rfl rfl rfl rfl
    have g22 := hk.owns 4 rfl rfl
    have x6 := (hk.est 5 _ rfl (.inl rfl) Rb (.inl ⟨rfl, rfl⟩)).trans hR
    exact obE_tmPut (T := (fun _ => False)) rfl (wanted_none rfl) e6 x6 f22 (.inr (.inl ⟨rfl, rfl⟩)) (fun k h => .inl ⟨4, by simp [rw2_C], h⟩) (fun h => h) (hk.away 5 4 _ rfl (.inl rfl) rfl rfl Rb (.inl ⟨rfl, rfl⟩)) rfl
set_option maxRecDepth 100000 in
set_option maxHeartbeats 8000000 in
theorem rw2_region {Q : Exit → Act → World → Prop} {id : Nat} (w0 : World) (Cb Tb Rb : Nat) (dd by_ : Int) (cp : Pl) (cv : Tm) (p : Pl) (t y : Tm) {s0 s1 s5 s7 s8 s9 s10 s11 s12 s13 s14 s15 s16 s17 s18 s19 s20 s21 s22 s23 s24 s25 s26 s27 s28 s29 s30 s31 s32 s33 s34 s35 s36 s37 s38 s39 s40 s41 s42 s43 s44 s45 s46 s47 s48 s49 s50 s51 s52 : Value} (hC : w0.heap[Cb]? = some (.cells (chC dd 0 by_ cp cv) 71 (0, 0))) (hT : w0.heap[Tb]? = some (tmO p t)) (hR : w0.heap[Rb]? = some (tmO plz zeroT)) (hCR : Cb ≠ Rb) (hTR : Tb ≠ Rb) (h2 : t.kind ≠ 2) (h7 : t.kind ≠ 7) (hlen : t.kids.length ≤ 9223372036854775807) (hn : -9223372036854775808 ≤ t.num ∧ t.num ≤ 9223372036854775807) (hlf : ∀ w, Chg (fun k => k = Rb) w0 w → Calls Try.prog 98 #[chV dd 0 by_ cp cv, tmV plz (bareT t), .int .i64 0] w (TmGot w (fun _ => False) y))
    (hend : ∀ (w' : World) (u22 : Value) (v5 : Value) (O5 : Nat → Prop), Chg (fun k => (fun k => k = Rb) k ∨ (fun _ => False) k) w0 w' → (∃ p, (.pointer (some ⟨Rb, 0, none⟩) : Value) = .pointer (some ⟨p, 0, none⟩) ∧ TmBox p (fun _ => False) y w' O5) → (∀ k, O5 k → k < w'.heap.size ∧ ¬ Fix w0 (est2 5 0 (fun k => k = Rb) (fun _ => False)) k) → Q .normal { tmps := (s0 :: s1 :: (.int .i64 0) :: (.pointer (some ⟨Cb, 0, none⟩)) :: (.pointer (some ⟨Tb, 0, none⟩)) :: s5 :: (.pointer (some ⟨Rb, 0, none⟩)) :: s7 :: s8 :: s9 :: s10 :: s11 :: s12 :: s13 :: s14 :: s15 :: s16 :: s17 :: (chV dd 0 by_ cp cv) :: (tmV p t) :: (tmV plz (bareT t)) :: (.int .i64 0) :: u22 :: s23 :: s24 :: s25 :: s26 :: s27 :: s28 :: s29 :: s30 :: s31 :: s32 :: s33 :: s34 :: s35 :: s36 :: s37 :: s38 :: s39 :: s40 :: s41 :: s42 :: s43 :: s44 :: s45 :: s46 :: s47 :: s48 :: s49 :: s50 :: s51 :: s52 :: [] : List Value).toArray, defers := [] } w') :
    (Code.region id rw2_ops.toArray true).wp Try.prog Q { tmps := (s0 :: s1 :: (.int .i64 0) :: (.pointer (some ⟨Cb, 0, none⟩)) :: (.pointer (some ⟨Tb, 0, none⟩)) :: s5 :: (.pointer (some ⟨Rb, 0, none⟩)) :: s7 :: s8 :: s9 :: s10 :: s11 :: s12 :: s13 :: s14 :: s15 :: s16 :: s17 :: s18 :: s19 :: s20 :: s21 :: s22 :: s23 :: s24 :: s25 :: s26 :: s27 :: s28 :: s29 :: s30 :: s31 :: s32 :: s33 :: s34 :: s35 :: s36 :: s37 :: s38 :: s39 :: s40 :: s41 :: s42 :: s43 :: s44 :: s45 :: s46 :: s47 :: s48 :: s49 :: s50 :: s51 :: s52 :: [] : List Value).toArray, defers := [] } w0 := by
  refine wp_region_est (by kernel_rfl) (est2 5 0 (fun k => k = Rb) (fun _ => False)) rw2_C (rw2_F w0 Cb Tb Rb dd by_ cp cv p t y) (est2_dis (fun _ _ h => h)) (est2_range (fun k hk => hk ▸ blk_lt hR) (fun _ h => h.elim)) (by rfl) (by kernel_rfl) (rw2_obs w0.drew Cb Tb Rb dd by_ cp cv p t y hC hT hR hCR hTR h2 h7 hlen hn (fun w h => hlf w (chg_undrew h)) _ _ rfl rfl rfl rfl) ?_
  intro a w' O hd hs hb hf hf2 ha hsame
  have hl := slots_eq (ops := rw2_ops.toArray) [(18, chV dd 0 by_ cp cv), (19, tmV p t), (20, tmV plz (bareT t)), (21, .int .i64 0), (22, a.tmps.getD 22 undef)] (show a.tmps.size = 53 from hs) (fun i h => hsame i h) ⟨(hf 0 _ 18 rfl rfl (by decide)).1, (hf 1 _ 19 rfl rfl (by decide)).1, (hf 2 _ 20 rfl rfl (by decide)).1, (hf 3 _ 21 rfl rfl (by decide)).1, rfl, trivial⟩ (by kernel_rfl)
  obtain ⟨tmps, defers⟩ := a
  obtain rfl : defers = [] := hd
  have hl' : tmps = _ := hl
  rw [hl']
  obtain ⟨⟨v5, hv5⟩, ho5⟩ := hf2 5 _ rfl rfl (by decide)
  have hb' := est2_chg hb
  refine Eq.mp ?_ (hend w' (tmps.getD 22 undef) v5 (O 5) ⟨hb'.os, hb'.tape, hb'.output, hb'.size, hb'.block⟩ hv5 ho5)
  kernel_rfl

def rw7_ops : List Oper := [
  { dst := some 37, op := Go.Op.fieldAddr 28 (Go.Operand.tmp 7) 5, type := 0, pos := "ref.go:206", after := #[], guard := none },
  { dst := some 38, op := Go.Op.load 26 (Go.Operand.tmp 37), type := 26, pos := "ref.go:206", after := #[{ on := 0, ground := Go.Ground.data }], guard := none },
  { dst := some 39, op := Go.Op.load 71 (Go.Operand.tmp 3), type := 71, pos := "ref.go:206", after := #[], guard := none },
  { dst := some 40, op := Go.Op.load 28 (Go.Operand.tmp 9), type := 28, pos := "ref.go:206", after := #[], guard := none },
  { dst := some 41, op := Go.Op.move (Go.Operand.tmp 2), type := 3, pos := "ref.go:206", after := #[], guard := none },
  { dst := some 42, op := Go.Op.fieldAddr 28 (Go.Operand.tmp 4) 0, type := 0, pos := "ref.go:206", after := #[], guard := none },
  { dst := some 43, op := Go.Op.load 3 (Go.Operand.tmp 42), type := 3, pos := "ref.go:206", after := #[{ on := 5, ground := Go.Ground.data }], guard := none },
  { dst := some 44, op := Go.Op.move (Go.Operand.tmp 8), type := 3, pos := "ref.go:206", after := #[], guard := none },
  { dst := some 45, op := Go.Op.call { callee := Go.Callee.value (Go.Operand.func 100), args := #[Go.Operand.tmp 43, Go.Operand.tmp 44], argTypes := #[3, 3] }, type := 3, pos := "ref.go:206", after := #[{ on := 6, ground := Go.Ground.data }, { on := 7, ground := Go.Ground.data }], guard := none },
  { dst := some 46, op := Go.Op.binOp Go.BinOp.add 3 (Go.Operand.tmp 41) (Go.Operand.tmp 45) 3, type := 3, pos := "ref.go:206", after := #[{ on := 4, ground := Go.Ground.data }, { on := 8, ground := Go.Ground.data }], guard := none },
  { dst := some 47, op := Go.Op.call { callee := Go.Callee.value (Go.Operand.func 66), args := #[Go.Operand.tmp 39, Go.Operand.tmp 40, Go.Operand.tmp 46], argTypes := #[71, 28, 3] }, type := 28, pos := "ref.go:206", after := #[{ on := 2, ground := Go.Ground.data }, { on := 3, ground := Go.Ground.data }, { on := 9, ground := Go.Ground.data }, { on := 8, ground := Go.Ground.chain }], guard := none },
  { dst := some 48, op := Go.Op.buildSlice 26 1 #[(0, Go.Operand.tmp 47)], type := 26, pos := "ref.go:206", after := #[{ on := 10, ground := Go.Ground.data }], guard := none },
  { dst := some 49, op := Go.Op.call { callee := Go.Callee.builtin Go.Builtin.append, args := #[Go.Operand.tmp 38, Go.Operand.tmp 48], argTypes := #[26, 26] }, type := 26, pos := "ref.go:206", after := #[{ on := 1, ground := Go.Ground.data }, { on := 11, ground := Go.Ground.data }, { on := 10, ground := Go.Ground.chain }], guard := none },
  { dst := some 50, op := Go.Op.fieldAddr 28 (Go.Operand.tmp 7) 5, type := 0, pos := "ref.go:206", after := #[{ on := 0, ground := Go.Ground.phase }, { on := 1, ground := Go.Ground.phase }, { on := 2, ground := Go.Ground.phase }, { on := 3, ground := Go.Ground.phase }, { on := 4, ground := Go.Ground.phase }, { on := 5, ground := Go.Ground.phase }, { on := 6, ground := Go.Ground.phase }, { on := 7, ground := Go.Ground.phase }, { on := 8, ground := Go.Ground.phase }, { on := 9, ground := Go.Ground.phase }, { on := 10, ground := Go.Ground.phase }, { on := 11, ground := Go.Ground.phase }, { on := 12, ground := Go.Ground.phase }], guard := none },
  { dst := none, op := Go.Op.store 26 (Go.Operand.tmp 50) (Go.Operand.tmp 49), type := 0, pos := "ref.go:206", after := #[{ on := 13, ground := Go.Ground.data }, { on := 12, ground := Go.Ground.data }, { on := 12, ground := Go.Ground.chain }, { on := 0, ground := Go.Ground.phase }, { on := 1, ground := Go.Ground.phase }, { on := 2, ground := Go.Ground.phase }, { on := 3, ground := Go.Ground.phase }, { on := 4, ground := Go.Ground.phase }, { on := 5, ground := Go.Ground.phase }, { on := 6, ground := Go.Ground.phase }, { on := 7, ground := Go.Ground.phase }, { on := 8, ground := Go.Ground.phase }, { on := 9, ground := Go.Ground.phase }, { on := 10, ground := Go.Ground.phase }, { on := 11, ground := Go.Ground.phase }, { on := 12, ground := Go.Ground.phase }], guard := none }]
def rw7_F (w0 : World) (Ob Bx Cb Tb lo n c i : Nat) (A : Option Addr) (cells : List Value) (kk : Int) (dd by_ : Int) (cp : Pl) (cv : Tm) (p : Pl) (t : Tm) (q : Pl) (x x' : Tm) : Nat → (Nat → Value) → Value → World → (Nat → Prop) → Prop := fun rix => match rix with
  | 0 => fun _ v _ _ => v = .pointer (some ⟨Ob, 7, none⟩)
  | 1 => fun _ v _ _ => v = .slice A n c
  | 2 => fun _ v _ _ => v = chV dd 0 by_ cp cv
  | 3 => fun _ v _ _ => v = tmV q x
  | 4 => fun _ v _ _ => v = .int .i64 0
  | 5 => fun _ v _ _ => v = .pointer (some ⟨Tb, 0, none⟩)
  | 6 => fun _ v _ _ => v = .int .i64 t.kind
  | 7 => fun _ v _ _ => v = .int .i64 i
  | 8 => fun _ v _ _ => v = .int .i64 0
  | 9 => fun _ v _ _ => v = .int .i64 0
  | 10 => fun τ v w O => TmO (fun _ => False) x' v w O
  | 11 => fun τ v w O => ∃ r9 q9, v = .slice (some ⟨r9, 0, none⟩) 1 1 ∧ w.heap[r9]? = some (.cells (tmC q9 x').toArray 28 (0, 0)) ∧ O r9 ∧ TmS w (fun k => O k ∧ k ≠ r9) q9 x'
  | 12 => fun τ v w O => RowT (fun _ => False) lo n cells x' v w O
  | 13 => fun _ v _ _ => v = .pointer (some ⟨Ob, 7, none⟩)
  | 14 => fun τ v w O => w.heap[Ob]? = some (outK kk (τ 49)) ∧ O Ob
  | _ => fun _ _ _ _ => True
def rw7_C : Nat → List Nat := fun rix => match rix with
  | 11 => [10]
  | 12 => [11]
  | _ => []
theorem rw7_nw2 : nwB rw7_ops.toArray 2 = true := by kernel_rfl
theorem rw7_nw3 : nwB rw7_ops.toArray 3 = true := by kernel_rfl
theorem rw7_nw4 : nwB rw7_ops.toArray 4 = true := by kernel_rfl
theorem rw7_nw7 : nwB rw7_ops.toArray 7 = true := by kernel_rfl
theorem rw7_nw8 : nwB rw7_ops.toArray 8 = true := by kernel_rfl
theorem rw7_nw9 : nwB rw7_ops.toArray 9 = true := by kernel_rfl
set_option maxRecDepth 100000 in
set_option maxHeartbeats 8000000 in
theorem rw7_obs (w0 : World) (Ob Bx Cb Tb lo n c i : Nat) (A : Option Addr) (cells : List Value) (kk : Int) (dd by_ : Int) (cp : Pl) (cv : Tm) (p : Pl) (t : Tm) (q : Pl) (x x' : Tm) (hO : w0.heap[Ob]? = some (outK kk (.slice A n c))) (hB : w0.heap[Bx]? = some (tmO q x)) (hC : w0.heap[Cb]? = some (.cells (chC dd 0 by_ cp cv) 71 (0, 0))) (hT : w0.heap[Tb]? = some (tmO p t)) (hV : w0.ownsRow lo 28 8 (.slice A n c) n cells) (hn : n ≤ 100) (hlo : Ob < lo) (hlz : lo ≤ w0.heap.size) (hVB : (Value.slice A n c).ownBlock ≠ some Bx) (hBO : Bx ≠ Ob) (hCO : Cb < Ob) (hTO : Tb < Ob) (hmz : moreZ t i = 0) (hIH : ∀ w, Chg (fun k => (Value.slice A n c).ownBlock = some k ∨ k = Ob) w0 w → (∀ k, k < w0.heap.size → (Value.slice A n c).ownBlock ≠ some k → k ≠ Ob → w.heap[k]? = w0.heap[k]?) → Calls Try.prog 66 #[chV dd 0 by_ cp cv, tmV q x, .int .i64 0] w (TmGot w (fun _ => False) x')) (Q : Exit → Act → World → Prop) (a0 : Act) (hi2 : a0.tmps.getD 2 undef = .int .i64 0) (hi3 : a0.tmps.getD 3 undef = .pointer (some ⟨Cb, 0, none⟩)) (hi4 : a0.tmps.getD 4 undef = .pointer (some ⟨Tb, 0, none⟩)) (hi7 : a0.tmps.getD 7 undef = .pointer (some ⟨Ob, 0, none⟩)) (hi8 : a0.tmps.getD 8 undef = .int .i64 i) (hi9 : a0.tmps.getD 9 undef = .pointer (some ⟨Bx, 0, none⟩)) :
    ObsE Try.prog rw7_ops.toArray Q (est2 12 14 (fun k => (Value.slice A n c).ownBlock = some k) (fun k => k = Ob)) rw7_C (rw7_F w0 Ob Bx Cb Tb lo n c i A cells kk dd by_ cp cv p t q x x') a0 w0 rw7_ops.toArray.toList 0 := by
  have nw2 := rw7_nw2
  have nw3 := rw7_nw3
  have nw4 := rw7_nw4
  have nw7 := rw7_nw7
  have nw8 := rw7_nw8
  have nw9 := rw7_nw9
  refine ⟨?_, ?_, ?_, ?_, ?_, ?_, ?_, ?_, ?_, ?_, ?_, ?_, ?_, ?_, ?_, trivial⟩
  · refine ⟨⟨fun τ => stableE_det _, leans_not⟩, ?_⟩
    intro a w O hk
    have e7 : a.eval (.tmp 7) = .pointer (some ⟨Ob, 0, none⟩) := (hk.init 7 (initialB_of_nw nw7)).trans hi7
    exact obE_run (wanted_none rfl) (by unfold execOp; simp only []; rw [e7]; go_simp) rfl
  · refine ⟨⟨fun τ => stableE_det _, leans_not⟩, ?_⟩
    intro a w O hk
    have e37 : a.eval (.tmp 37) = .pointer (some ⟨Ob, 7, none⟩) := hk.fact 0 _ 37 rfl rfl rfl rfl
    have x7 := (hk.est 14 _ rfl (.inr rfl) Ob (.inr ⟨rfl, rfl⟩)).trans hO
    obtain ⟨p0, p1, p2, p3, p4, p5, p6, p7, -, -, -, -, -, -, -, -⟩ := row8c x7
    exact obE_run (wanted_none rfl) (by unfold execOp; simp only []; rw [e37]; go_simp) rfl
  · refine ⟨⟨fun τ => stableE_det _, leans_not⟩, ?_⟩
    intro a w O hk
    have e3 : a.eval (.tmp 3) = .pointer (some ⟨Cb, 0, none⟩) := (hk.init 3 (initialB_of_nw nw3)).trans hi3
    have x3 := (hk.fix Cb (est2_fix (blk_lt hC) (fun e => by have := own_base hV Cb e; omega) (fun e => by have e : Cb = Ob := e; omega))).trans hC
    exact obE_loadRow rfl e3 x3 Try.underlying71 rfl (by kernel_rfl) (wanted_none rfl) rfl
  · refine ⟨⟨fun τ => stableE_det _, leans_not⟩, ?_⟩
    intro a w O hk
    have e9 : a.eval (.tmp 9) = .pointer (some ⟨Bx, 0, none⟩) := (hk.init 9 (initialB_of_nw nw9)).trans hi9
    have xB := (hk.fix Bx (est2_fix (blk_lt hB) (fun e => hVB e) (fun e => hBO e))).trans hB
    exact obE_loadRow rfl e9 xB Try.underlying28 rfl (by kernel_rfl) (wanted_none rfl) rfl
  · refine ⟨⟨fun τ => stableE_det _, leans_not⟩, ?_⟩
    intro a w O hk
    have e2 : a.eval (.tmp 2) = .int .i64 0 := (hk.init 2 (initialB_of_nw nw2)).trans hi2
    exact toE (ob_move rfl e2 (wanted_none rfl) rfl)
  · refine ⟨⟨fun τ => stableE_det _, leans_not⟩, ?_⟩
    intro a w O hk
    have e4 : a.eval (.tmp 4) = .pointer (some ⟨Tb, 0, none⟩) := (hk.init 4 (initialB_of_nw nw4)).trans hi4
    exact obE_run (wanted_none rfl) (by unfold execOp; simp only []; rw [e4]; go_simp) rfl
  · refine ⟨⟨fun τ => stableE_det _, leans_not⟩, ?_⟩
    intro a w O hk
    have e42 : a.eval (.tmp 42) = .pointer (some ⟨Tb, 0, none⟩) := hk.fact 5 _ 42 rfl rfl rfl rfl
    have xT := (hk.fix Tb (est2_fix (blk_lt hT) (fun e => by have := own_base hV Tb e; omega) (fun e => by have e : Tb = Ob := e; omega))).trans hT
    obtain ⟨p0, p1, p2, p3, p4, p5, p6, p7⟩ := row8 xT
    exact obE_run (wanted_none rfl) (by unfold execOp; simp only []; rw [e42]; go_simp) rfl
  · refine ⟨⟨fun τ => stableE_det _, leans_not⟩, ?_⟩
    intro a w O hk
    have e8 : a.eval (.tmp 8) = .int .i64 i := (hk.init 8 (initialB_of_nw nw8)).trans hi8
    exact toE (ob_move rfl e8 (wanted_none rfl) rfl)
  · refine ⟨⟨fun τ => stableE_det _, leans_not⟩, ?_⟩
    intro a w O hk
    have e43 : a.eval (.tmp 43) = .int .i64 t.kind := hk.fact 6 _ 43 rfl rfl rfl rfl
    have e44 : a.eval (.tmp 44) = .int .i64 i := hk.fact 7 _ 44 rfl rfl rfl rfl
    exact obE_callV #[.int .i64 t.kind, .int .i64 i] rfl rfl rfl rfl (by simp only [List.map_cons, List.map_nil]; rw [e43, e44]) (wanted_none rfl) ((refbinds_calls t i _ rfl w).mono fun e w' h => ⟨by rw [h.1, hmz], h.2 ▸ Below.refl _ _⟩)
  · refine ⟨⟨fun τ => stableE_det _, leans_not⟩, ?_⟩
    intro a w O hk
    have e41 : a.eval (.tmp 41) = .int .i64 0 := hk.fact 4 _ 41 rfl rfl rfl rfl
    have e45 : a.eval (.tmp 45) = .int .i64 0 := hk.fact 8 _ 45 rfl rfl rfl rfl
    exact obE_run (wanted_none rfl) (by unfold execOp; simp only []; rw [e41, e45]; go_simp <;> rfl) rfl
  · refine ⟨⟨fun τ => stableE_tm (fun k h => h.elim), leans_not⟩, ?_⟩
    intro a w O hk
    have e39 : a.eval (.tmp 39) = chV dd 0 by_ cp cv := hk.fact 2 _ 39 rfl rfl rfl rfl
    have e40 : a.eval (.tmp 40) = tmV q x := hk.fact 3 _ 40 rfl rfl rfl rfl
    have e46 : a.eval (.tmp 46) = .int .i64 0 := hk.fact 9 _ 46 rfl rfl rfl rfl
    exact obE_tmCall #[chV dd 0 by_ cp cv, tmV q x, .int .i64 0] rfl rfl rfl rfl (by simp only [List.map_cons, List.map_nil]; rw [e39, e40, e46]) (wanted_none rfl) ((hIH w (hk.world.mono fun k ⟨i, h⟩ => h.elim (fun h => .inl h.2) fun h => .inr h.2) (fun k h1 h2 h3 => hk.fix k (est2_fix h1 h2 h3))).mono fun e w' ⟨q9, h1, h2, h3⟩ => ⟨q9, h1, h2.mono fun k h _ => h.elim False.elim .inr, h3⟩)
  · refine ⟨⟨fun τ => (fun v w w' O h hz hk => by obtain ⟨r9, q9, e, hb, hO, ht⟩ := h; exact ⟨r9, q9, e, (hk r9 (blk_lt hb) (.inr hO)).trans hb, hO, ht.same fun k hk' hz' => hk k hz' (.inr hk'.1)⟩), leans_not⟩, ?_⟩
    intro a w O hk
    have f47 := hk.fact 10 _ 47 rfl rfl rfl rfl
    have g47 := hk.owns 10 rfl rfl
    obtain ⟨q9, z47, h47⟩ := f47
    have z47' : a.eval (.tmp 47) = _ := z47
    have ht : TmS (w.alloc (.cells (tmC q9 x').toArray 28 (0, 0))) (fun k => (k = w.heap.size ∨ O 10 k) ∧ k ≠ w.heap.size) q9 x' := (h47.later (below_alloc (Below.refl _ _) _)).mono fun k h _ => h.elim False.elim fun h => ⟨.inr h, fun e => by have := (g47 k h).1; omega⟩
    exact obE_res (w' := w.alloc (.cells (tmC q9 x').toArray 28 (0, 0))) (fun k => k = w.heap.size ∨ O 10 k) (wanted_none rfl) (by unfold execOp; simp only [List.map_toArray, List.map_cons, List.map_nil]; rw [z47']; unfold tmV; go_simp; rfl) (Chg.of_below ((Below.refl _ _).alloc (Nat.le_refl _) _)) ⟨_, q9, rfl, blk_new _ _, .inl rfl, ht⟩ (fun k hk => hk.elim (fun hk => .inr ⟨by omega, by simp; omega⟩) fun hk => .inl (.inl ⟨10, by simp [rw7_C], hk⟩))
  · refine ⟨⟨fun τ => (fun v w w' O h hz hk => stableE_row (T := fun _ => False) (V := v) (fun k h => h.elim) v w w' O h hz hk), leans_not⟩, ?_⟩
    intro a w O hk
    have e38 : a.eval (.tmp 38) = .slice A n c := hk.fact 1 _ 38 rfl rfl rfl rfl
    have f48 := hk.fact 11 _ 48 rfl rfl rfl rfl
    have g48 := hk.owns 11 rfl rfl
    have ow := ownsRow_same hV (fun k hk' => hk.est 12 _ rfl (.inl rfl) k (.inl ⟨rfl, hk'⟩))
    obtain ⟨r9, q9, z48, hp, -, hq⟩ := f48
    have e48 : a.eval (.tmp 48) = .slice (some ⟨r9, 0, none⟩) 1 1 := z48
    refine obE_tmRow (v0 := .slice A n c) (wanted_none rfl) (fun k hk => .inr (.inl ⟨rfl, hk⟩)) hq (fun k h => ⟨.inl ⟨11, by simp [rw7_C], h.1⟩, (g48 k h.1).1, fun e => hk.away 12 11 _ rfl (.inl rfl) rfl rfl k (.inl ⟨rfl, e⟩) h.1⟩) (fun Q' hQ => ?_)
    refine print_append_at lo rfl (.tmp 38) (.tmp 48) 26 28 _ 8 120 rfl Try.underlying26 infoTm rfl (by decide) (by decide) (.slice A n c) n cells (tmC q9 x') e38 e48 hp rfl (List.all_eq_true.1 rfl) ow (by omega) (Nat.le_trans hlz hk.world.size) ?_
    intro v1 w1 ho1 hg hat
    exact hQ v1 w1 ho1 hg hat
  · refine ⟨⟨fun τ => stableE_det _, leans_not⟩, ?_⟩
    intro a w O hk
    have e7 : a.eval (.tmp 7) = .pointer (some ⟨Ob, 0, none⟩) := (hk.init 7 (initialB_of_nw nw7)).trans hi7
    exact obE_run (wanted_none rfl) (by unfold execOp; simp only []; rw [e7]; go_simp) rfl
  · refine ⟨⟨fun τ => (fun v w w' O h hz hk => ⟨(hk Ob (blk_lt h.1) (.inr h.2)).trans h.1, h.2⟩), fun τ τ' h => by have e : τ' 49 = τ 49 := h 12 _ 49 rfl rfl rfl; show (fun (v : Value) (w : World) (O : Nat → Prop) => w.heap[Ob]? = some (outK kk (τ 49)) ∧ O Ob) = (fun (v : Value) (w : World) (O : Nat → Prop) => w.heap[Ob]? = some (outK kk (τ' 49)) ∧ O Ob); rw [e]⟩, ?_⟩
    intro a w O hk
    have e50 : a.eval (.tmp 50) = .pointer (some ⟨Ob, 7, none⟩) := hk.fact 13 _ 50 rfl rfl rfl rfl
    have f49 := hk.fact 12 _ 49 rfl rfl rfl rfl
    have g49 := hk.owns 12 rfl rfl
    obtain ⟨q8, hs9, -, -⟩ := f49
    obtain ⟨A3, c3, q49⟩ := own_slice hs9
    have e49 : a.eval (.tmp 49) = .slice A3 (n + 1) c3 := q49
    have x7 := (hk.est 14 _ rfl (.inl rfl) Ob (.inr ⟨rfl, rfl⟩)).trans hO
    obtain ⟨p0, p1, p2, p3, p4, p5, p6, p7, k0, k1, k2, k3, k4, k5, k6, k7⟩ := row8c x7
    refine obE_store (w' := w.setCell ⟨Ob, 7, none⟩ (.slice A3 (n + 1) c3)) (fun k => k = Ob) (wanted_none rfl) (by unfold execOp; simp only []; rw [e50, e49]; go_simp) ((chg_set w Ob 7 _).mono fun k h => .inr (.inr ⟨rfl, h⟩)) ⟨?_, rfl⟩ (fun k h => .inl (.inr (.inr ⟨rfl, h⟩)))
    show _ = some (outK kk (a.tmps.getD 49 undef))
    rw [q49]
    exact blk_put x7 7 _ rfl
set_option maxRecDepth 100000 in
set_option maxHeartbeats 8000000 in
theorem rw7_region {Q : Exit → Act → World → Prop} {id : Nat} (w0 : World) (Ob Bx Cb Tb lo n c i : Nat) (A : Option Addr) (cells : List Value) (kk : Int) (dd by_ : Int) (cp : Pl) (cv : Tm) (p : Pl) (t : Tm) (q : Pl) (x x' : Tm) {s0 s1 s5 s6 s10 s11 s12 s13 s14 s15 s16 s17 s18 s19 s20 s21 s22 s23 s24 s25 s26 s27 s28 s29 s30 s31 s32 s33 s34 s35 s36 s37 s38 s39 s40 s41 s42 s43 s44 s45 s46 s47 s48 s49 s50 s51 s52 : Value} (hO : w0.heap[Ob]? = some (outK kk (.slice A n c))) (hB : w0.heap[Bx]? = some (tmO q x)) (hC : w0.heap[Cb]? = some (.cells (chC dd 0 by_ cp cv) 71 (0, 0))) (hT : w0.heap[Tb]? = some (tmO p t)) (hV : w0.ownsRow lo 28 8 (.slice A n c) n cells) (hn : n ≤ 100) (hlo : Ob < lo) (hlz : lo ≤ w0.heap.size) (hVB : (Value.slice A n c).ownBlock ≠ some Bx) (hBO : Bx ≠ Ob) (hCO : Cb < Ob) (hTO : Tb < Ob) (hmz : moreZ t i = 0) (hIH : ∀ w, Chg (fun k => (Value.slice A n c).ownBlock = some k ∨ k = Ob) w0 w → (∀ k, k < w0.heap.size → (Value.slice A n c).ownBlock ≠ some k → k ≠ Ob → w.heap[k]? = w0.heap[k]?) → Calls Try.prog 66 #[chV dd 0 by_ cp cv, tmV q x, .int .i64 0] w (TmGot w (fun _ => False) x'))
    (hend : ∀ (w' : World) (u47 : Value) (u48 : Value) (u49 : Value) (O12 : Nat → Prop) (v14 : Value) (O14 : Nat → Prop), Chg (fun k => (fun k => (Value.slice A n c).ownBlock = some k) k ∨ (fun k => k = Ob) k) w0 w' → (RowT (fun _ => False) lo n cells x' u49 w' O12) → (∀ k, O12 k → k < w'.heap.size ∧ ¬ Fix w0 (est2 12 14 (fun k => (Value.slice A n c).ownBlock = some k) (fun k => k = Ob)) k) → (w'.heap[Ob]? = some (outK kk (u49)) ∧ O14 Ob) → (∀ k, O14 k → k < w'.heap.size ∧ ¬ Fix w0 (est2 12 14 (fun k => (Value.slice A n c).ownBlock = some k) (fun k => k = Ob)) k) → (∀ k, O12 k → ¬ O14 k) → Q .normal { tmps := (s0 :: s1 :: (.int .i64 0) :: (.pointer (some ⟨Cb, 0, none⟩)) :: (.pointer (some ⟨Tb, 0, none⟩)) :: s5 :: s6 :: (.pointer (some ⟨Ob, 0, none⟩)) :: (.int .i64 i) :: (.pointer (some ⟨Bx, 0, none⟩)) :: s10 :: s11 :: s12 :: s13 :: s14 :: s15 :: s16 :: s17 :: s18 :: s19 :: s20 :: s21 :: s22 :: s23 :: s24 :: s25 :: s26 :: s27 :: s28 :: s29 :: s30 :: s31 :: s32 :: s33 :: s34 :: s35 :: s36 :: (.pointer (some ⟨Ob, 7, none⟩)) :: (.slice A n c) :: (chV dd 0 by_ cp cv) :: (tmV q x) :: (.int .i64 0) :: (.pointer (some ⟨Tb, 0, none⟩)) :: (.int .i64 t.kind) :: (.int .i64 i) :: (.int .i64 0) :: (.int .i64 0) :: u47 :: u48 :: u49 :: (.pointer (some ⟨Ob, 7, none⟩)) :: s51 :: s52 :: [] : List Value).toArray, defers := [] } w') :
    (Code.region id rw7_ops.toArray true).wp Try.prog Q { tmps := (s0 :: s1 :: (.int .i64 0) :: (.pointer (some ⟨Cb, 0, none⟩)) :: (.pointer (some ⟨Tb, 0, none⟩)) :: s5 :: s6 :: (.pointer (some ⟨Ob, 0, none⟩)) :: (.int .i64 i) :: (.pointer (some ⟨Bx, 0, none⟩)) :: s10 :: s11 :: s12 :: s13 :: s14 :: s15 :: s16 :: s17 :: s18 :: s19 :: s20 :: s21 :: s22 :: s23 :: s24 :: s25 :: s26 :: s27 :: s28 :: s29 :: s30 :: s31 :: s32 :: s33 :: s34 :: s35 :: s36 :: s37 :: s38 :: s39 :: s40 :: s41 :: s42 :: s43 :: s44 :: s45 :: s46 :: s47 :: s48 :: s49 :: s50 :: s51 :: s52 :: [] : List Value).toArray, defers := [] } w0 := by
  refine wp_region_est (by kernel_rfl) (est2 12 14 (fun k => (Value.slice A n c).ownBlock = some k) (fun k => k = Ob)) rw7_C (rw7_F w0 Ob Bx Cb Tb lo n c i A cells kk dd by_ cp cv p t q x x') (est2_dis (fun k h h2 => by have := own_base hV k h; have h2 : k = Ob := h2; omega)) (est2_range (fun k hk => own_lt hV k hk) (fun k hk => hk ▸ blk_lt hO)) (by rfl) (by kernel_rfl) (rw7_obs w0.drew Ob Bx Cb Tb lo n c i A cells kk dd by_ cp cv p t q x x' hO hB hC hT hV hn hlo hlz hVB hBO hCO hTO hmz (fun w h h2 => hIH w (chg_undrew h) h2) _ _ rfl rfl rfl rfl rfl rfl) ?_
  intro a w' O hd hs hb hf hf2 ha hsame
  have hl := slots_eq (ops := rw7_ops.toArray) [(37, .pointer (some ⟨Ob, 7, none⟩)), (38, .slice A n c), (39, chV dd 0 by_ cp cv), (40, tmV q x), (41, .int .i64 0), (42, .pointer (some ⟨Tb, 0, none⟩)), (43, .int .i64 t.kind), (44, .int .i64 i), (45, .int .i64 0), (46, .int .i64 0), (47, a.tmps.getD 47 undef), (48, a.tmps.getD 48 undef), (49, a.tmps.getD 49 undef), (50, .pointer (some ⟨Ob, 7, none⟩))] (show a.tmps.size = 53 from hs) (fun i h => hsame i h) ⟨(hf 0 _ 37 rfl rfl (by decide)).1, (hf 1 _ 38 rfl rfl (by decide)).1, (hf 2 _ 39 rfl rfl (by decide)).1, (hf 3 _ 40 rfl rfl (by decide)).1, (hf 4 _ 41 rfl rfl (by decide)).1, (hf 5 _ 42 rfl rfl (by decide)).1, (hf 6 _ 43 rfl rfl (by decide)).1, (hf 7 _ 44 rfl rfl (by decide)).1, (hf 8 _ 45 rfl rfl (by decide)).1, (hf 9 _ 46 rfl rfl (by decide)).1, rfl, rfl, rfl, (hf 13 _ 50 rfl rfl (by decide)).1, trivial⟩ (by kernel_rfl)
  obtain ⟨tmps, defers⟩ := a
  obtain rfl : defers = [] := hd
  have hl' : tmps = _ := hl
  rw [hl']
  obtain ⟨⟨v14, hv14⟩, ho14⟩ := hf2 14 _ rfl rfl (by decide)
  have hb' := est2_chg hb
  refine Eq.mp ?_ (hend w' (tmps.getD 47 undef) (tmps.getD 48 undef) (tmps.getD 49 undef) (O 12) v14 (O 14) ⟨hb'.os, hb'.tape, hb'.output, hb'.size, hb'.block⟩ (hf 12 _ 49 rfl rfl (by decide)).1 (hf 12 _ 49 rfl rfl (by decide)).2 hv14 ho14 (ha 12 14 (by decide) (by decide) (by decide) (by decide) (by decide)))
  kernel_rfl

end Go.Proofs.Ytdboloabpjmgaaa

/-! EndW -/
namespace Go.Proofs.Ytdboloabpjmgaaa
open Go.RowKit Go.Proofs.YtdboloabpjmgaaaW.PrintWords Go.RegionInvYtdboloabpjmgaaa Go.RegionEYtdboloabpjmgaaa

theorem en_grew {w0 w' : World} {B lo : Nat} {l V : Value} {zs : List (Tm × Int)} {O : Nat → Prop} (hC : Chg (fun k => (fun k => l.ownBlock = some k) k ∨ (fun _ => False) k) w0 w') (hF : EnF B lo zs V w' O)
    (hO : ∀ k, O k → k < w'.heap.size ∧ ¬ Fix w0 (est2 8 8 (fun k => l.ownBlock = some k) (fun _ => False)) k) : KidsE w' (fun k => k < B) lo V zs ∧ Grew l V w0 w' := by
  refine ⟨hF.1, hC.mono fun k h => h.elim id False.elim, fun k hk => ?_⟩
  rcases Nat.lt_or_ge k w0.heap.size with hz | hz
  · by_cases e : l.ownBlock = some k
    · exact .inl e
    · exact absurd (est2_fix hz e (fun h => h.elim)) (hO k (hF.2 k hk)).2
  · exact .inr hz
theorem ends_len (N : Nat) : ∀ (t : Tm), SizeOf.sizeOf t < N → ∀ (d : Int), (endsP t d).length ≤ sizeT t := by
  induction N with
  | zero => intro t h; omega
  | succ N ih =>
    intro t hN d
    by_cases h0 : nK t = 0
    · rw [ends_leaf h0, size_leaf h0]; exact Nat.le_refl _
    · rw [ends_node h0, size_eq]
      have key : ∀ (xs : List (Fin (nK t))), ((xs.map fun i => endsP (kidF t i) (d + moreZ t i)).flatten).length ≤ sumK t xs := by
        intro xs
        induction xs with
        | nil => exact Nat.le_refl _
        | cons x r ihr =>
          have e1 : sumK t (x :: r) = sizeT (kidF t x) + sumK t r := by unfold sumK; rw [List.map_cons, List.sum_cons]
          rw [List.map_cons, List.flatten_cons, List.length_append, e1]
          have := ih (kidF t x) (by have := kidF_lt t x; omega) (d + moreZ t x)
          omega
      have := key (List.finRange (nK t))
      omega
def sumD (t : Tm) (xs : List (Fin (nK t))) : Nat := (xs.map fun i => sizeT (kidF t i)).sum
def endD (t : Tm) (d : Int) (xs : List (Fin (nK t))) : List (Tm × Int) := (xs.map fun i => endsP (kidF t i) (d + moreZ t i)).flatten
set_option maxRecDepth 100000 in
set_option maxHeartbeats 4000000 in
theorem ends_calls (N : Nat) : ∀ (t : Tm), SizeOf.sizeOf t < N → ∀ (p : Pl) (B lo : Nat) (d : Int) (V : Value) (xs : List (Tm × Int)) (w : World), TmIn w B p t → B ≤ lo → lo ≤ w.heap.size → 0 ≤ d → d + depthT t ≤ 10000 → xs.length + sizeT t ≤ 30000 → KidsE w (fun k => k < B) lo V xs →
    Calls Try.prog 80 #[tmV p t, .int .i64 d, V] w (EndsPost w B lo V (xs ++ endsP t d)) := by
  induction N with
  | zero => intro t h; omega
  | succ N ih =>
    intro t hN p B lo d V xs w hin hBl hlo hd0 hd1 hsz hK
    have IH := Aside0.mk ih
    have HNN := Aside0.mk hN
    have HK := Aside0.mk hK
    have hsp := size_pos t
    obtain ⟨cells0, q0, hown0, -⟩ := hK
    obtain ⟨n, hn⟩ : ∃ x, xs.length = x := ⟨_, rfl⟩
    rw [hn] at hown0 hsz
    obtain ⟨A, c, rfl⟩ := own_slice hown0
    have HNX := Aside0.mk hn
    obtain ⟨W, hW⟩ : ∃ W, W = w.alloc (tmO p t) := ⟨_, rfl⟩
    have hb : Below w.heap.size w W := by rw [hW]; exact below_alloc (Below.refl _ _) _
    have HB := Aside0.mk hb
    have HX := Aside0.mk (show W.heap[w.heap.size]? = some (tmO p t) by rw [hW]; exact blk_new _ _)
    have HIN := Aside0.mk hin
    have hlen := hin.len
    have HD := Aside0.mk hd1
    have HSZ := Aside0.mk hsz
    have hn9 : n ≤ 30000 := by omega
    obtain ⟨ar, har⟩ : ∃ x, arZ t.kind = x := ⟨_, rfl⟩
    have HAC := Aside0.mk (show ∀ w, Calls Try.prog 39 #[.int .i64 t.kind] w fun e w' => e = .returned (.int .i64 ar) ∧ w' = w from fun w => by rw [← har]; exact refkids_calls _ _)
    clear ih hN hown0 hin hb hd1 hsz hn hsp
    by_cases h0 : nK t = 0
    · have HEL := Aside0.mk (ends_leaf (d := d) h0)
      cases hlf : leafR t with
      | true =>
        have HLF := Aside0.mk hlf
        clear hlf h0
        unfold tmV
        unfold tmO at hW
        go_enter Try.func80, Try.ntmps80
        go_upto_region 1 with (fail)
        rw [← hW]
        clear hW
        go_upto_region 2 with (first
          | (refine wpList_load_row rfl 28 _ rfl (w.heap.size) rfl 28 _ (0, 0) _ HX.out Try.underlying28 rfl (by kernel_rfl) ?_)
          | (go_at_call 77; go_must (refine (refleaf_calls t p W (by omega)).mono ?_; rintro e w2 ⟨rfl, hb⟩; rw [HLF.out]; have HBW := Aside0.mk hb; have HB2 := Aside0.mk (below_then HB.out HB.out.size hb); have HX2 := Aside0.mk ((hb.block _ (blk_lt HX.out)).trans HX.out); clear hb)))
        obtain ⟨W3, hW3⟩ : ∃ W3, W3 = w2.alloc (.cells (enC p (t, d)).toArray 81 (0, 0)) := ⟨_, rfl⟩
        have hW3' : W3 = _ := hW3
        simp only [enC, tmC, List.cons_append, List.nil_append] at hW3'
        have hb3 : Below w2.heap.size w2 W3 := by rw [hW3]; exact below_alloc (Below.refl _ _) _
        have HB3 := Aside0.mk (below_then HB2.out HB2.out.size hb3)
        have HR3 := Aside0.mk (show W3.heap[w2.heap.size]? = some (.cells (enC p (t, d)).toArray 81 (0, 0)) by rw [hW3]; exact blk_new _ _)
        obtain ⟨cells, q, hown, hkids⟩ := HK.out.later HB3.out
        rw [HNX.out] at hown
        have HOWN := Aside0.mk hown
        have HKID := Aside0.mk hkids
        have hlo3 := Nat.le_trans hlo HB3.out.size
        clear hW3 hb3 hown hkids
        go_wp2_with (first
          | (refine wpList_load_row rfl 28 _ rfl (w.heap.size) rfl 28 _ (0, 0) _ HX2.out Try.underlying28 rfl (by kernel_rfl) ?_)
          | (rw [← hW3']; refine print_append_at lo rfl (.tmp 17) (.tmp 21) 78 81 _ 9 128 rfl Try.underlying78 infoEn rfl (by decide) (by decide) (.slice A n c) n cells (enC p (t, d)) rfl rfl HR3.out rfl (List.all_eq_true.1 rfl) HOWN.out (by omega) hlo3 ?_; intro v1 w1 ho1 hg hat; have HG1 := Aside0.mk (Grew.of_append hg hat); have HE1 := Aside0.mk (KidsE.push (x := (t, d)) (fun b hb => Nat.lt_of_lt_of_le hb hBl) (by rw [HNX.out]; exact HOWN.out) HKID.out (TmIn.stay HIN.out (HB3.out.mono (Nat.le_trans hBl hlo))) (by rw [HNX.out]; exact ho1) hg); clear ho1 hg hat))
        go_ret
        rw [HEL.out]
        exact ⟨v1, rfl, HE1.out, Grew.trans (w1 := W3) ⟨Chg.of_below HB3.out, fun _ h => .inl h⟩ HG1.out⟩
      | false =>
        have HLF := Aside0.mk hlf
        have ha0 : ar = 0 := by have := nK_eq hlf; rw [h0, har] at this; omega
        subst ha0
        clear hlf h0
        unfold tmV
        unfold tmO at hW
        go_enter Try.func80, Try.ntmps80
        go_upto_region 1 with (fail)
        rw [← hW]
        clear hW
        go_upto_region 2 with (first
          | (refine wpList_load_row rfl 28 _ rfl (w.heap.size) rfl 28 _ (0, 0) _ HX.out Try.underlying28 rfl (by kernel_rfl) ?_)
          | (go_at_call 77; go_must (refine (refleaf_calls t p W (by omega)).mono ?_; rintro e w2 ⟨rfl, hb⟩; rw [HLF.out]; have HBW := Aside0.mk hb; have HB2 := Aside0.mk (below_then HB.out HB.out.size hb); have HX2 := Aside0.mk ((hb.block _ (blk_lt HX.out)).trans HX.out); have c0 := (row8 HX2.out).1; clear hb))
          | (go_at_call 39; go_must (refine (HAC.out _).mono ?_; rintro e w3 ⟨rfl, h3⟩; have h3 := h3.symm; subst h3)))
        obtain ⟨W3, hW3⟩ : ∃ W3, W3 = w2.alloc (.cells (enC p (t, d)).toArray 81 (0, 0)) := ⟨_, rfl⟩
        have hW3' : W3 = _ := hW3
        simp only [enC, tmC, List.cons_append, List.nil_append] at hW3'
        have hb3 : Below w2.heap.size w2 W3 := by rw [hW3]; exact below_alloc (Below.refl _ _) _
        have HB3 := Aside0.mk (below_then HB2.out HB2.out.size hb3)
        have HR3 := Aside0.mk (show W3.heap[w2.heap.size]? = some (.cells (enC p (t, d)).toArray 81 (0, 0)) by rw [hW3]; exact blk_new _ _)
        obtain ⟨cells, q, hown, hkids⟩ := HK.out.later HB3.out
        rw [HNX.out] at hown
        have HOWN := Aside0.mk hown
        have HKID := Aside0.mk hkids
        have hlo3 := Nat.le_trans hlo HB3.out.size
        clear hW3 hb3 hown hkids
        go_wp2_with (first
          | (refine wpList_load_row rfl 28 _ rfl (w.heap.size) rfl 28 _ (0, 0) _ HX2.out Try.underlying28 rfl (by kernel_rfl) ?_)
          | (rw [← hW3']; refine print_append_at lo rfl (.tmp 17) (.tmp 21) 78 81 _ 9 128 rfl Try.underlying78 infoEn rfl (by decide) (by decide) (.slice A n c) n cells (enC p (t, d)) rfl rfl HR3.out rfl (List.all_eq_true.1 rfl) HOWN.out (by omega) hlo3 ?_; intro v1 w1 ho1 hg hat; have HG1 := Aside0.mk (Grew.of_append hg hat); have HE1 := Aside0.mk (KidsE.push (x := (t, d)) (fun b hb => Nat.lt_of_lt_of_le hb hBl) (by rw [HNX.out]; exact HOWN.out) HKID.out (TmIn.stay HIN.out (HB3.out.mono (Nat.le_trans hBl hlo))) (by rw [HNX.out]; exact ho1) hg); clear ho1 hg hat))
        go_ret
        rw [HEL.out]
        exact ⟨v1, rfl, HE1.out, Grew.trans (w1 := W3) ⟨Chg.of_below HB3.out, fun _ h => .inl h⟩ HG1.out⟩
    · have hlf : leafR t = false := by
        cases h : leafR t with
        | true => exact absurd (nK_leaf h) h0
        | false => rfl
      obtain ⟨hk1, hk2, hk3⟩ := nK_eq hlf
      rw [har] at hk1 hk2 hk3
      have HLF := Aside0.mk hlf
      have HEL := Aside0.mk (show endsP t d = endD t d (List.finRange (nK t)) from ends_node h0)
      have HSD := Aside0.mk (show sizeT t = 1 + sumD t (List.finRange (nK t)) by rw [sizeT]; rfl)
      obtain ⟨m, hm⟩ : ∃ x, nK t = x := ⟨_, rfl⟩
      rw [hm] at hk1 h0
      subst hk1
      have HNK := Aside0.mk hm
      have hne : ((m : Int) == 0) = false := by simp; omega
      have hm3 : m ≤ 3 := by rw [← hm]; exact nK_le3 t
      have hmL : m ≤ t.kids.length := by omega
      have hme : m ≤ p.e := by omega
      have hmeI : (m : Int) ≤ p.e := by omega
      clear hlf hm hk2 hk3 har
      unfold tmV
      unfold tmO at hW
      go_enter Try.func80, Try.ntmps80
      go_upto_region 1 with (fail)
      rw [← hW]
      clear hW
      go_upto_region 3 with (first
        | (refine wpList_load_row rfl 28 _ rfl (w.heap.size) rfl 28 _ (0, 0) _ HX.out Try.underlying28 rfl (by kernel_rfl) ?_)
        | (go_at_call 77; go_must (refine (refleaf_calls t p W (by omega)).mono ?_; rintro e w2 ⟨rfl, hb⟩; rw [HLF.out]; have HBW := Aside0.mk hb; have HB2 := Aside0.mk (below_then HB.out HB.out.size hb); have HX2 := Aside0.mk ((hb.block _ (blk_lt HX.out)).trans HX.out); have c0 := (row8 HX2.out).1; clear hb))
        | (go_at_call 39; go_must (refine (HAC.out _).mono ?_; rintro e w3 ⟨rfl, h3⟩; have h3 := h3.symm; subst h3)))
      have c7 := (row8 HX2.out).2.2.2.2.2.2.2
      go_quiet ((go_at_call 39; exact Calls.quiet_of_same (HAC.out _)))
      obtain ⟨qq, hq⟩ := HIN.out.kid
      have HQ := Aside0.mk hq
      have HX0 := HX
      clear hq c0 c7 HX
      go_wp2
      go_loopw [2, 30] (fun l i wr => ∃ (k : Nat) (ys : List (Tm × Int)), i = .int .i64 k ∧ k ≤ m ∧ ys.length + sumD t ((List.finRange (nK t)).drop k) ≤ 30000 ∧ Aside0 (ys ++ endD t d ((List.finRange (nK t)).drop k) = xs ++ endsP t d) ∧ Aside0 (KidsE wr (fun k => k < B) lo l ys) ∧ Aside0 (Grew (.slice A n c) l W wr) ∧ Aside0 (wr.heap[w.heap.size]? = some (tmO p t))) (fun _ i _ => m - (intOf i).toNat)
      case atStart =>
        have hbn : Below W.heap.size W (w2.drewN nq) := below_drewN HBW.out _
        exact ⟨0, xs, rfl, Nat.zero_le _, by rw [List.drop_zero]; have := HSZ.out; have := HSD.out; have := HNX.out; omega, ⟨by rw [List.drop_zero, HEL.out]⟩, ⟨HK.out.later (below_drewN HB2.out _)⟩, ⟨⟨Chg.of_below hbn, fun _ h => .inl h⟩⟩, ⟨(hbn.block _ (by have := blk_lt HX0.out; omega)).trans HX0.out⟩⟩
      case round =>
        clear HB2 HX2 HBW
        obtain ⟨k, ys, rfl, hk, hys, HEQ, HKR, HGR, HXR⟩ := hrel
        by_cases hlt : k < m
        · have hkn : k < nK t := by rw [HNK.out]; exact hlt
          have hx := kidF_get t ⟨k, hkn⟩
          have HDF := Aside0.mk (drop_fin hkn)
          have HDK := Aside0.mk (depth_kid t ⟨k, hkn⟩)
          obtain ⟨x, hxe⟩ : ∃ x, kidF t ⟨k, hkn⟩ = x := ⟨_, rfl⟩
          have HXL := Aside0.mk (show SizeOf.sizeOf x < SizeOf.sizeOf t by rw [← hxe]; exact kidF_lt t _)
          rw [hxe] at hx HDK
          obtain ⟨⟨bk, o, hpK, hSb, hcells⟩, hxin⟩ := HQ.out k x hx
          have hkeep : ∀ j, j < B → wr.heap[j]? = w.heap[j]? := fun j hj => (HGR.out.1.block j (by have := HB.out.size; omega) (fun e => by
            have e2 : (Value.slice A n c).ownBlock = some j := e
            have := (HK.out.base e2).1
            omega)).trans (HB.out.block j (by omega))
          have hbk : ∀ j v, (tmC (qq k) x)[j]? = some v → wr.cell? ⟨bk, o + k * 8 + j, none⟩ = some v := fun j v hv => (cell_same (hkeep bk hSb)).trans (hcells j v hv)
          have d0 := hbk 0 _ rfl
          have d1 := hbk 1 _ rfl
          have d2 := hbk 2 _ rfl
          have d3 := hbk 3 _ rfl
          have d4 := hbk 4 _ rfl
          have d5 := hbk 5 _ rfl
          have d6 := hbk 6 _ rfl
          have d7 := hbk 7 _ rfl
          rw [Nat.add_zero] at d0
          have HXIN := Aside0.mk (show TmIn wr B (qq k) x from TmS.same hxin fun j hj _ => hkeep j hj)
          have HPK := Aside0.mk hpK
          have HEX := Aside0.mk (show endD t d (⟨k, hkn⟩ :: (List.finRange (nK t)).drop (k + 1)) = endsP x (d + moreZ t k) ++ endD t d ((List.finRange (nK t)).drop (k + 1)) by unfold endD; rw [List.map_cons, List.flatten_cons, hxe])
          have HSX := Aside0.mk (show sumD t (⟨k, hkn⟩ :: (List.finRange (nK t)).drop (k + 1)) = sizeT x + sumD t ((List.finRange (nK t)).drop (k + 1)) by unfold sumD; rw [List.map_cons, List.sum_cons, hxe])
          rw [hpK]
          clear hcells hx hxin hbk hpK hxe hkeep
          go_upto_region 6 with (fail)
          obtain ⟨W5, hW5⟩ : ∃ W5, W5 = wr.alloc (tmO (qq k) x) := ⟨_, rfl⟩
          have hb5 : Below wr.heap.size wr W5 := by rw [hW5]; exact below_alloc (Below.refl _ _) _
          have hX5 : W5.heap[wr.heap.size]? = some (tmO (qq k) x) := by rw [hW5]; exact blk_new _ _
          have hT5 : W5.heap[w.heap.size]? = some (tmO p t) := (hb5.block _ (blk_lt HXR.out)).trans HXR.out
          have hzW := HB.out.size
          have hzT := blk_lt HXR.out
          have hVT : u2.ownBlock ≠ some w.heap.size := fun e => (HGR.out.2 _ e).elim (fun e2 => by have := (HK.out.base e2).2; omega) (fun h => by have := blk_lt HX0.out; omega)
          have hVB : u2.ownBlock ≠ some wr.heap.size := fun e => by have := (HKR.out.base e).2; omega
          have hm := moreZ_in t k
          have hz5 := hb5.size
          unfold tmO at hW5
          rw [← hW5]
          clear hW5
          refine en_region W5 wr.heap.size w.heap.size lo B (qq k) x p t k d u2 ys (ys ++ endsP x (d + moreZ t k)) hX5 hT5 (TmIn.stay HXIN.out (hb5.mono (by omega))) (HKR.out.later hb5) hBl (by omega) hVB hVT (by have := HD.out; omega)
            (fun w' hz hin hk => IH.out x (by have := HXL.out; have := HNN.out; omega) (qq k) B lo (d + moreZ t k) u2 ys w' hin hBl (by omega) (by omega) (by have := HDK.out; have := HD.out; omega) (by rw [HDF.out, HSX.out] at hys; omega) hk) ?_
          intro w6 V6 u43 O9 hC hF hO
          obtain ⟨hE, hG⟩ := en_grew hC hF hO
          have HE6 := Aside0.mk hE
          have HG6 := Aside0.mk (Grew.trans HGR.out (Grew.trans ⟨Chg.of_below hb5, fun _ h => .inl h⟩ hG))
          have HX6 := Aside0.mk ((hG.1.block _ (blk_lt hT5) hVT).trans hT5)
          have HEQ2 := Aside0.mk (show (ys ++ endsP x (d + moreZ t k)) ++ endD t d ((List.finRange (nK t)).drop (k + 1)) = xs ++ endsP t d by rw [List.append_assoc, ← HEX.out, ← HDF.out]; exact HEQ.out)
          have HLN := Aside0.mk (ends_len _ x (Nat.lt_succ_self _) (d + moreZ t k))
          clear hC hF hO hE hG hb5 hX5 hT5 hVT hVB hm
          go_wp2
          go_roundw
          case rel => exact ⟨k + 1, ys ++ endsP x (d + moreZ t k), by go_num, by omega, by rw [HDF.out, HSX.out] at hys; rw [List.length_append]; have := HLN.out; omega, HEQ2, HE6, HG6, HX6⟩
          case measure => (simp [intOf]; try omega)
        · obtain rfl : k = m := by omega
          have hlt' : decide ((k : Int) < k) = false := by simp
          have HZ := Aside0.mk (show ys = xs ++ endsP t d by
            have h := HEQ.out
            rw [List.drop_of_length_le (by rw [List.length_finRange, HNK.out]; exact Nat.le_refl _)] at h
            rw [← h]
            show ys = ys ++ []
            rw [List.append_nil])
          go_wp2
          go_ret
          exact ⟨u2, rfl, by rw [← HZ.out]; exact HKR.out, Grew.trans (w1 := W) ⟨Chg.of_below HB.out, fun _ h => .inl h⟩ HGR.out⟩
end Go.Proofs.Ytdboloabpjmgaaa

/-! Rwk -/
namespace Go.Proofs.Ytdboloabpjmgaaa
open Go.RowKit Go.Proofs.YtdboloabpjmgaaaW.PrintWords Go.RegionInvYtdboloabpjmgaaa Go.RegionEYtdboloabpjmgaaa

abbrev rwkW (w : World) (dd by_ : Int) (cp : Pl) (cv : Tm) (p : Pl) (t : Tm) : World := ((w.alloc (.cells (chC dd 0 by_ cp cv) 71 (0, 0))).alloc (tmO p t)).alloc (outK 0 (.slice none 0 0))
theorem rwk_box (w : World) (dd by_ : Int) (cp : Pl) (cv : Tm) (p : Pl) (t : Tm) : Below w.heap.size w (rwkW w dd by_ cp cv p t) ∧ (rwkW w dd by_ cp cv p t).heap[w.heap.size]? = some (.cells (chC dd 0 by_ cp cv) 71 (0, 0)) ∧ (rwkW w dd by_ cp cv p t).heap[w.heap.size + 1]? = some (tmO p t) ∧ (rwkW w dd by_ cp cv p t).heap[w.heap.size + 1 + 1]? = some (outK 0 (.slice none 0 0)) ∧ (rwkW w dd by_ cp cv p t).heap.size = w.heap.size + 3 := by
  refine ⟨below_alloc (below_alloc (below_alloc (Below.refl _ _) _) _) _, blk_alloc (box0 w _ _) _, blk_alloc (box1 w _ _) _, ?_, by simp⟩
  have := blk_new ((w.alloc (.cells (chC dd 0 by_ cp cv) 71 (0, 0))).alloc (tmO p t)) (outK 0 (.slice none 0 0))
  simp only [World.size_alloc] at this
  exact this
theorem app_more (x y : Tm) (i : Nat) : moreZ (appT x y) i = 0 := by unfold moreZ; exact if_neg (fun h => h.2 rfl)
section
variable (dd by_ : Int) (cp : Pl) (cv : Tm) (RL : Tm → Int → Tm) (g1 : Nat) (S : Nat → Prop) (Rep : World → Prop)
set_option maxRecDepth 100000 in
set_option maxHeartbeats 8000000 in
theorem rwk_leaf (hRep : ∀ W W', Rep W → (∀ k, k < g1 → W'.heap[k]? = W.heap[k]?) → Rep W')
    (t : Tm) (hlf2 : ∀ (w : World), g1 ≤ w.heap.size → Rep w → Calls Try.prog 98 #[chV dd 0 by_ cp cv, tmV plz (bareT t), .int .i64 0] w (TmGot w (fun _ => False) (RL t 0)))
    (h0 : nK t = 0) (hkd : t.kind ≠ 2 ∧ t.kind ≠ 7) (p : Pl) (w : World) (hg1 : g1 ≤ w.heap.size) (hR : Rep w) (hin : TmS w S p t) :
    Calls Try.prog 66 #[chV dd 0 by_ cp cv, tmV p t, .int .i64 0] w (TmGot w (fun _ => False) (rebP RL t 0)) := by
  have HE := Aside0.mk (show rebP RL t 0 = RL t 0 from reb_leaf (decide_eq_true h0))
  have HIN := Aside0.mk hin
  have HRW := Aside0.mk hR
  have HRP := Aside0.mk hRep
  have HLF2 := Aside0.mk hlf2
  have HKD := Aside0.mk hkd
  have hlen := hin.len
  obtain ⟨W, hW⟩ : ∃ W, W = rwkW w dd by_ cp cv p t := ⟨_, rfl⟩
  obtain ⟨hb, hc, hx, hr, hz⟩ := rwk_box w dd by_ cp cv p t
  rw [← hW] at hb hc hx hr hz
  have HB := Aside0.mk hb
  have HC := Aside0.mk hc
  have HX := Aside0.mk hx
  have HR := Aside0.mk hr
  have HZ := Aside0.mk hz
  obtain ⟨ar, har⟩ : ∃ x, arZ t.kind = x := ⟨_, rfl⟩
  have HAC := Aside0.mk (show ∀ w, Calls Try.prog 39 #[.int .i64 t.kind] w fun e w' => e = .returned (.int .i64 ar) ∧ w' = w from fun w => by rw [← har]; exact refkids_calls _ _)
  clear hb hc hx hr hz hin hR hRep hlf2 hkd
  unfold rwkW at hW
  cases hlf : leafR t with
  | true =>
    have HLF := Aside0.mk hlf
    clear hlf h0
    unfold chV tmV
    unfold tmO at hW
    go_enter Try.func66, Try.ntmps66
    go_upto_region 1 with (fail)
    rw [← hW]
    clear hW
    go_upto_region 2 with (first
      | (refine wpList_load_row rfl 28 _ rfl (w.heap.size + 1) rfl 28 _ (0, 0) _ HX.out Try.underlying28 rfl (by kernel_rfl) ?_)
      | (go_at_call 77; go_must (refine (refleaf_calls t p W (by omega)).mono ?_; rintro e w2 ⟨rfl, hb⟩; rw [HLF.out]; have HBW := Aside0.mk hb; have HB2 := Aside0.mk (below_then HB.out HB.out.size hb); have HC2 := Aside0.mk ((hb.block _ (blk_lt HC.out)).trans HC.out); have HX2 := Aside0.mk ((hb.block _ (blk_lt HX.out)).trans HX.out); have HR2 := Aside0.mk ((hb.block _ (blk_lt HR.out)).trans HR.out); clear hb)))
    have hzW := HB2.out.size
    have hzl := blk_lt HR2.out
    refine rw2_region w2 (w.heap.size) (w.heap.size + 1) (w.heap.size + 1 + 1) dd by_ cp cv p t (rebP RL t 0) HC2.out HX2.out HR2.out (by omega) (by omega) HKD.out.1 HKD.out.2 (by omega) HIN.out.fit.1 (fun w5 h5 => by rw [HE.out]; exact HLF2.out w5 (Nat.le_trans hg1 (Nat.le_trans HB2.out.size h5.size)) (HRP.out _ _ HRW.out (fun k hk => (h5.block k (by omega) (by omega)).trans (HB2.out.block k (by omega))))) ?_
    intro w6 u22 v5 O5 hC ⟨pp, hpe, q9, hq1, hq2, hq3⟩ hO5
    obtain rfl : pp = w.heap.size + 1 + 1 := by injection hpe with hpe; injection hpe with hpe; injection hpe with hpe; exact hpe.symm
    obtain ⟨y, hy⟩ : ∃ y, y = rebP RL t 0 := ⟨_, rfl⟩
    rw [← hy] at hq1 hq3
    have HY := Aside0.mk hy
    have HQ1 := Aside0.mk hq1
    have HQ3 := Aside0.mk hq3
    have HO5 := Aside0.mk hO5
    have HCC := Aside0.mk hC
    clear hq1 hq3 hO5 hC hpe hy hq2
    go_wp2
    refine bodyPost_ret (results_c rfl _ _ (w.heap.size + 1 + 1) 28 #[.int .i64 y.kind, .int .i64 y.num, .string y.name, .int .i64 y.lv.kind, .int .i64 y.lv.num, .slice q9.A y.lv.kids.length q9.c, .slice q9.B y.ls.length q9.d, .slice q9.K y.kids.length q9.e] (0, 0) _ rfl HQ1.out Try.underlying28 rfl (by kernel_rfl)) rfl ?_
    rw [← HY.out]
    refine ⟨q9, rfl, HQ3.out.mono fun k hk hz => .inr ?_, Chg.trans_below HB2.out HCC.out (fun k e => by rcases e with e | e; (have e : k = w.heap.size + 1 + 1 := e; omega); exact e.elim) HB2.out.size⟩
    rcases hk with hk | hk
    · exact hk.elim
    · rcases Nat.lt_or_ge k w2.heap.size with h | h
      · exact absurd (est2_fix h (fun e => hk.2 e) (fun e => e.elim)) (HO5.out k hk.1).2
      · omega
  | false =>
    have HLF := Aside0.mk hlf
    have ha0 : ar = 0 := by have := nK_eq hlf; rw [h0, har] at this; omega
    subst ha0
    clear hlf h0
    unfold chV tmV
    unfold tmO at hW
    go_enter Try.func66, Try.ntmps66
    go_upto_region 1 with (fail)
    rw [← hW]
    clear hW
    go_upto_region 2 with (first
      | (refine wpList_load_row rfl 28 _ rfl (w.heap.size + 1) rfl 28 _ (0, 0) _ HX.out Try.underlying28 rfl (by kernel_rfl) ?_)
      | (go_at_call 77; go_must (refine (refleaf_calls t p W (by omega)).mono ?_; rintro e w2 ⟨rfl, hb⟩; rw [HLF.out]; have HBW := Aside0.mk hb; have HB2 := Aside0.mk (below_then HB.out HB.out.size hb); have HC2 := Aside0.mk ((hb.block _ (blk_lt HC.out)).trans HC.out); have HX2 := Aside0.mk ((hb.block _ (blk_lt HX.out)).trans HX.out); have HR2 := Aside0.mk ((hb.block _ (blk_lt HR.out)).trans HR.out); have c0 := (row8 HX2.out).1; clear hb))
      | (go_at_call 39; go_must (refine (HAC.out _).mono ?_; rintro e w3 ⟨rfl, h3⟩; have h3 := h3.symm; subst h3)))
    have hzW := HB2.out.size
    have hzl := blk_lt HR2.out
    refine rw2_region w2 (w.heap.size) (w.heap.size + 1) (w.heap.size + 1 + 1) dd by_ cp cv p t (rebP RL t 0) HC2.out HX2.out HR2.out (by omega) (by omega) HKD.out.1 HKD.out.2 (by omega) HIN.out.fit.1 (fun w5 h5 => by rw [HE.out]; exact HLF2.out w5 (Nat.le_trans hg1 (Nat.le_trans HB2.out.size h5.size)) (HRP.out _ _ HRW.out (fun k hk => (h5.block k (by omega) (by omega)).trans (HB2.out.block k (by omega))))) ?_
    intro w6 u22 v5 O5 hC ⟨pp, hpe, q9, hq1, hq2, hq3⟩ hO5
    obtain rfl : pp = w.heap.size + 1 + 1 := by injection hpe with hpe; injection hpe with hpe; injection hpe with hpe; exact hpe.symm
    obtain ⟨y, hy⟩ : ∃ y, y = rebP RL t 0 := ⟨_, rfl⟩
    rw [← hy] at hq1 hq3
    have HY := Aside0.mk hy
    have HQ1 := Aside0.mk hq1
    have HQ3 := Aside0.mk hq3
    have HO5 := Aside0.mk hO5
    have HCC := Aside0.mk hC
    clear hq1 hq3 hO5 hC hpe hy hq2
    go_wp2
    refine bodyPost_ret (results_c rfl _ _ (w.heap.size + 1 + 1) 28 #[.int .i64 y.kind, .int .i64 y.num, .string y.name, .int .i64 y.lv.kind, .int .i64 y.lv.num, .slice q9.A y.lv.kids.length q9.c, .slice q9.B y.ls.length q9.d, .slice q9.K y.kids.length q9.e] (0, 0) _ rfl HQ1.out Try.underlying28 rfl (by kernel_rfl)) rfl ?_
    rw [← HY.out]
    refine ⟨q9, rfl, HQ3.out.mono fun k hk hz => .inr ?_, Chg.trans_below HB2.out HCC.out (fun k e => by rcases e with e | e; (have e : k = w.heap.size + 1 + 1 := e; omega); exact e.elim) HB2.out.size⟩
    rcases hk with hk | hk
    · exact hk.elim
    · rcases Nat.lt_or_ge k w2.heap.size with h | h
      · exact absurd (est2_fix h (fun e => hk.2 e) (fun e => e.elim)) (HO5.out k hk.1).2
      · omega
set_option maxRecDepth 100000 in
set_option maxHeartbeats 8000000 in
theorem rwk_calls (hS : ∀ k, S k → k < g1) (hRep : ∀ W W', Rep W → (∀ k, k < g1 → W'.heap[k]? = W.heap[k]?) → Rep W')
    (hlf1 : ∀ (t : Tm) (w : World), t = varT 0 ∨ t = zeroT → g1 ≤ w.heap.size → Rep w → Calls Try.prog 98 #[chV dd 0 by_ cp cv, tmV plz t, .int .i64 0] w (TmGot w (fun _ => False) (RL t 0)))
    {t : Tm} (ht : Bt t) : ∀ (p : Pl) (w : World), g1 ≤ w.heap.size → Rep w → TmS w S p t →
    Calls Try.prog 66 #[chV dd 0 by_ cp cv, tmV p t, .int .i64 0] w (TmGot w (fun _ => False) (rebP RL t 0)) := by
  induction ht with
  | var => exact fun p w => rwk_leaf dd by_ cp cv RL g1 S Rep hRep (varT 0) (fun w hg hr => hlf1 _ w (.inl rfl) hg hr) rfl ⟨by decide, by decide⟩ p w
  | zero => exact fun p w => rwk_leaf dd by_ cp cv RL g1 S Rep hRep zeroT (fun w hg hr => hlf1 _ w (.inr rfl) hg hr) rfl ⟨by decide, by decide⟩ p w
  | @app tx ty htx hty ihx ihy =>
    intro p w hg1 hR hin
    have IH := Aside0.mk (show ∀ k (h : k < 2) (p : Pl) (w : World), g1 ≤ w.heap.size → Rep w → TmS w S p (kidF (appT tx ty) ⟨k, h⟩) → Calls Try.prog 66 #[chV dd 0 by_ cp cv, tmV p (kidF (appT tx ty) ⟨k, h⟩), .int .i64 0] w (TmGot w (fun _ => False) (rebP RL (kidF (appT tx ty) ⟨k, h⟩) 0)) from fun k h => by
      match k, h with
      | 0, h => exact ihx
      | 1, h => exact ihy
      | k + 2, h => omega)
    obtain ⟨t, ht⟩ : ∃ t, t = appT tx ty := ⟨_, rfl⟩
    have hk6 : t.kind = 6 := by rw [ht]; rfl
    have HNK := Aside0.mk (show nK t = 2 by rw [ht]; rfl)
    have HMZ := Aside0.mk (show ∀ i, moreZ t i = 0 by rw [ht]; exact app_more tx ty)
    have HKL := Aside0.mk (show t.kids.length = 2 by rw [ht]; rfl)
    have HLF := Aside0.mk (show leafR t = false by rw [ht]; rfl)
    have HBE := Aside0.mk (show bareT t = .mk 6 0 noName lv0 [] [] by rw [ht]; rfl)
    have HE := Aside0.mk (show rebP RL t 0 = .mk t.kind 0 noName (.mk 0 0 []) [] (rebKids RL t 0 (List.finRange (nK t))) from reb_node (by rw [ht]; rfl))
    rw [← ht] at hin
    have IH2 := Aside0.mk (show ∀ k (h : k < nK t) (p : Pl) (w : World), g1 ≤ w.heap.size → Rep w → TmS w S p (kidF t ⟨k, h⟩) → Calls Try.prog 66 #[chV dd 0 by_ cp cv, tmV p (kidF t ⟨k, h⟩), .int .i64 0] w (TmGot w (fun _ => False) (rebP RL (kidF t ⟨k, h⟩) 0)) by subst ht; exact IH.out)
    rw [← ht]
    have HTT := Aside0.mk ht
    have HSS := Aside0.mk hS
    have HIN := Aside0.mk hin
    have HRW := Aside0.mk hR
    have HRP := Aside0.mk hRep
    have hlen := hin.len
    obtain ⟨W, hW⟩ : ∃ W, W = rwkW w dd by_ cp cv p t := ⟨_, rfl⟩
    obtain ⟨hb, hc, hx, hr, hz⟩ := rwk_box w dd by_ cp cv p t
    rw [← hW] at hb hc hx hr hz
    have HB := Aside0.mk hb
    have HC := Aside0.mk hc
    have HX := Aside0.mk hx
    have HR := Aside0.mk hr
    have HZ := Aside0.mk hz
    have HAC := Aside0.mk (show ∀ w, Calls Try.prog 39 #[.int .i64 6] w fun e w' => e = .returned (.int .i64 2) ∧ w' = w from fun w => refkids_calls 6 w)
    have HBR := Aside0.mk (show ∀ w, Calls Try.prog 99 #[tmV p t] w fun e w' => e = .returned (.agg #[.int .i64 6, .int .i64 0, .string ⟨#[]⟩, .int .i64 0, .int .i64 0, .slice none 0 0, .slice none 0 0, .slice none 0 0]) ∧ Below w.heap.size w w' from fun w => (bare_calls t p w (by omega) (by omega) (by omega) hin.fit.1).mono (by rintro e w' ⟨h, hb⟩; rw [HBE.out] at h; exact ⟨h, hb⟩))
    clear hb hc hx hr hz hin hR hRep ht hS IH ihx ihy htx hty hlf1
    have HK6 := Aside0.mk hk6
    clear hk6
    unfold rwkW at hW
    unfold chV tmV
    unfold tmO at hW
    go_enter Try.func66, Try.ntmps66
    go_upto_region 1 with (fail)
    rw [← hW]
    clear hW
    have hkl := HKL.out
    have h2e : (2 : Int) ≤ p.e := by omega
    have h2e' : 2 ≤ p.e := by omega
    clear hkl
    go_upto_region 3 with (first
      | (refine wpList_load_row rfl 28 _ rfl (w.heap.size + 1) rfl 28 _ (0, 0) _ HX.out Try.underlying28 rfl (by kernel_rfl) ?_)
      | (go_at_call 77; go_must (refine (refleaf_calls t p W (by omega)).mono ?_; rintro e w2 ⟨rfl, hb⟩; rw [HLF.out]; have HBW := Aside0.mk hb; have HB2 := Aside0.mk (below_then HB.out HB.out.size hb); have HC2 := Aside0.mk ((hb.block _ (blk_lt HC.out)).trans HC.out); have HX2 := Aside0.mk ((hb.block _ (blk_lt HX.out)).trans HX.out); have HR2 := Aside0.mk ((hb.block _ (blk_lt HR.out)).trans HR.out); have c0 := (row8 HX2.out).1; rw [HK6.out] at c0; clear hb))
      | (go_at_call 39; go_must (refine (HAC.out _).mono ?_; rintro e w3 ⟨rfl, h3⟩; have h3 := h3.symm; subst h3)))
    go_upto_region 4 with (first
      | (refine wpList_load_row rfl 28 _ rfl (w.heap.size + 1) rfl 28 _ (0, 0) _ HX2.out Try.underlying28 rfl (by kernel_rfl) ?_)
      | (go_at_call 99; go_must (refine (HBR.out w2).mono ?_; rintro e w3 ⟨rfl, hb⟩; have HB3 := Aside0.mk (below_then HB2.out HB2.out.size hb); have HC3 := Aside0.mk ((hb.block _ (blk_lt HC2.out)).trans HC2.out); have HX3 := Aside0.mk ((hb.block _ (blk_lt HX2.out)).trans HX2.out); have HR3 := Aside0.mk ((hb.block _ (blk_lt HR2.out)).trans HR2.out); clear hb)))
    obtain ⟨W4, hW4⟩ : ∃ W4, W4 = w3.alloc (outK 6 (.slice none 0 0)) := ⟨_, rfl⟩
    have hb4 : Below w3.heap.size w3 W4 := by rw [hW4]; exact below_alloc (Below.refl _ _) _
    have HO4 := Aside0.mk (show W4.heap[w3.heap.size]? = some (outK 6 (.slice none 0 0)) by rw [hW4]; exact blk_new _ _)
    have hz4 : W4.heap.size = w3.heap.size + 1 := by rw [hW4]; simp
    have HB4 := Aside0.mk (below_then HB3.out HB3.out.size hb4)
    have HC4 := Aside0.mk ((hb4.block _ (blk_lt HC3.out)).trans HC3.out)
    have HX4 := Aside0.mk ((hb4.block _ (blk_lt HX3.out)).trans HX3.out)
    have HR4 := Aside0.mk ((hb4.block _ (blk_lt HR3.out)).trans HR3.out)
    unfold outK at hW4
    rw [← hW4]
    clear hW4 hb4 c0 h3
    have c7 := (row8 HX4.out).2.2.2.2.2.2.2
    have c0 := (row8 HX4.out).1
    rw [HK6.out] at c0
    go_quiet ((go_at_call 39; exact Calls.quiet_of_same (HAC.out _)))
    have HOB4 : W4.heap.size = w3.heap.size + 1 := hz4
    obtain ⟨Ob, hOb⟩ : ∃ x, w3.heap.size = x := ⟨_, rfl⟩
    rw [hOb] at HO4 HOB4 ⊢
    have HOZ := Aside0.mk HOB4
    have hOw : w.heap.size + 1 + 1 < Ob := by have := blk_lt HR3.out; omega
    obtain ⟨qq, hq⟩ := HIN.out.kid
    have HQ := Aside0.mk hq
    clear hq c0 c7 hz4 HOB4 hOb
    go_wp2
    go_loopw [32] (fun i wr => ∃ (k : Nat) (V : Value), i = .int .i64 k ∧ k ≤ 2 ∧ Aside0 (wr.heap[Ob]? = some (outK 6 V)) ∧ Aside0 (KidsT wr (fun _ => False) (Ob + 1) V (rebKids RL t 0 ((List.finRange (nK t)).take k))) ∧ Aside0 (Chg (fun k => k = Ob) W4 wr)) (fun i _ => 2 - (intOf i).toNat)
    case atStart =>
      have hbn : Below W4.heap.size W4 (W4.drewN nq) := below_drewN (Below.refl _ _) _
      exact ⟨0, .slice none 0 0, rfl, Nat.zero_le _, ⟨(hbn.block _ (blk_lt HO4.out)).trans HO4.out⟩, ⟨KidsT.nil _ _ _⟩, ⟨Chg.of_below hbn⟩⟩
    case round =>
      obtain ⟨k, V, rfl, hk, HOR, HKR, HGR⟩ := hrel
      by_cases hlt : k < 2
      · have hkn : k < nK t := by rw [HNK.out]; exact hlt
        have hx := kidF_get t ⟨k, hkn⟩
        have HTK := Aside0.mk (take_fin hkn)
        obtain ⟨x, hxe⟩ : ∃ x, kidF t ⟨k, hkn⟩ = x := ⟨_, rfl⟩
        have HIX := Aside0.mk (IH2.out k hkn)
        rw [hxe] at hx HIX
        have HXE := Aside0.mk hxe
        obtain ⟨⟨bk, o, hpK, hSb, hcells⟩, hxin⟩ := HQ.out k x hx
        have HSB := Aside0.mk hSb
        have hkeep : ∀ j, j < g1 → wr.heap[j]? = w.heap[j]? := fun j hj => (HGR.out.block j (by have := HB4.out.size; omega) (by omega)).trans (HB4.out.block j (by omega))
        have HKEEP := Aside0.mk hkeep
        have hbk : ∀ j v, (tmC (qq k) x)[j]? = some v → wr.cell? ⟨bk, o + k * 8 + j, none⟩ = some v := fun j v hv => (cell_same (hkeep bk (HSS.out _ hSb))).trans (hcells j v hv)
        have d0 := hbk 0 _ rfl
        have d1 := hbk 1 _ rfl
        have d2 := hbk 2 _ rfl
        have d3 := hbk 3 _ rfl
        have d4 := hbk 4 _ rfl
        have d5 := hbk 5 _ rfl
        have d6 := hbk 6 _ rfl
        have d7 := hbk 7 _ rfl
        rw [Nat.add_zero] at d0
        have HXIN := Aside0.mk (show TmS wr S (qq k) x from TmS.same hxin fun j hj _ => hkeep j (HSS.out _ hj))
        rw [hpK]
        clear hcells hx hxin hbk hpK hxe hkeep hSb
        go_upto_region 7 with (fail)
        obtain ⟨W5, hW5⟩ : ∃ W5, W5 = wr.alloc (tmO (qq k) x) := ⟨_, rfl⟩
        have hb5 : Below wr.heap.size wr W5 := by rw [hW5]; exact below_alloc (Below.refl _ _) _
        have hX5 : W5.heap[wr.heap.size]? = some (tmO (qq k) x) := by rw [hW5]; exact blk_new _ _
        have hzr := HGR.out.size
        have hz0 := HOZ.out
        have hO5 : W5.heap[Ob]? = some (outK 6 V) := (hb5.block _ (blk_lt HOR.out)).trans HOR.out
        have hC5 := (hb5.block _ (by omega)).trans ((HGR.out.block _ (by omega) (by omega)).trans HC4.out)
        have hT5 := (hb5.block _ (by omega)).trans ((HGR.out.block _ (by omega) (by omega)).trans HX4.out)
        have hz5 := hb5.size
        unfold tmO at hW5
        rw [← hW5]
        clear hW5
        have HK5 := HKR.out.later hb5
        obtain ⟨cells, qz, hown, hkids⟩ := HKR.out
        obtain ⟨A9, c9, rfl⟩ := own_slice hown
        have hVB : (Value.slice A9 (rebKids RL t 0 ((List.finRange (nK t)).take k)).length c9).ownBlock ≠ some wr.heap.size := fun e => by have := own_lt hown _ e; omega
        clear hown hkids
        obtain ⟨cells, qz, hown, hkids⟩ := HK5
        obtain ⟨L, hL⟩ : ∃ L, (rebKids RL t 0 ((List.finRange (nK t)).take k)).length = L := ⟨_, rfl⟩
        have hL2 : L ≤ 2 := by rw [← hL, rebKids_len, List.length_take]; omega
        have HLE := Aside0.mk hL
        rw [hL] at hVB hown hkids hO5
        clear hL
        have HKID := Aside0.mk hkids
        have HOWN := Aside0.mk hown
        have HB5 := Aside0.mk hb5
        clear hkids hown hb5
        have hlen1 : t.kids.length ≤ 9223372036854775807 := by omega
        refine rw7_region W5 Ob wr.heap.size (w.heap.size) (w.heap.size + 1) (Ob + 1) L c9 k A9 cells 6 dd by_ cp cv p t (qq k) x (rebP RL x 0) hO5 hX5 hC5 hT5 HOWN.out (by omega) (by omega) (by omega) hVB (by omega) (by omega) (by omega) (HMZ.out k) (fun w5 h5 h6 => HIX.out (qq k) w5 (by have := h5.size; omega) (HRP.out _ _ HRW.out (fun j hj => (h6 j (by omega) (fun e => by have := own_base HOWN.out j e; omega) (by omega)).trans ((HB5.out.block j (by omega)).trans (HKEEP.out j hj)))) (HXIN.out.same fun j hj _ => by
          have hj := HSS.out _ hj
          exact (h6 j (by omega) (fun e => by have := own_base HOWN.out j e; omega) (by omega)).trans (HB5.out.block j (by omega)))) ?_
        intro w6 u47 u48 u49 O12 v14 O14 hch h12 hO12 h14 hO14 hap
        have hfin := reb_round (g0 := 0) HLE.out HKID.out HOWN.out hch h12 hO12 (fun h => hap _ h h14.2) (by omega) (by omega) (by omega) (fun k h => h.elim)
        have hsn := rebKids_snoc RL t 0 ((List.finRange (nK t)).take k) ⟨k, hkn⟩
        rw [HXE.out, HMZ.out k] at hsn
        rw [show (0 : Int) + 0 = 0 from rfl, ← HTK.out] at hsn
        rw [← hsn] at hfin
        have HF6 := Aside0.mk hfin
        have HO6 := Aside0.mk h14.1
        have HG6 := Aside0.mk (show Chg (fun k => k = Ob) W4 w6 from ⟨hch.os.trans (HB5.out.os.trans HGR.out.os), hch.tape.trans (HB5.out.tape.trans HGR.out.tape), hch.output.trans (HB5.out.output.trans HGR.out.output), Nat.le_trans HGR.out.size (Nat.le_trans HB5.out.size hch.size), fun j hj hn => (hch.block j (by omega) (fun e => e.elim (fun e => by have := own_base HOWN.out j e; omega) hn)).trans ((HB5.out.block j (by omega)).trans (HGR.out.block j hj hn))⟩)
        clear hch h12 hO12 h14 hO14 hap hfin hsn hX5 hO5 hC5 hT5 hVB
        go_wp2
        go_roundw
        case rel => exact ⟨k + 1, u49, by go_num, by omega, HO6, HF6, HG6⟩
        case measure => (simp [intOf]; try omega)
      · obtain rfl : k = 2 := by omega
        have hlt' : decide ((2 : Int) < 2) = false := by simp
        have HFU := Aside0.mk (show (List.finRange (nK t)).take 2 = List.finRange (nK t) from List.take_of_length_le (by rw [List.length_finRange, HNK.out]; exact Nat.le_refl _))
        have hKT := HKR.out
        rw [HFU.out] at hKT
        obtain ⟨K9, e9, rfl, hterm⟩ := hKT.term
        have HTM := Aside0.mk (hterm 6 0 noName ⟨by decide, by decide, by simp⟩)
        have hz0 := HOZ.out
        have hzr := HGR.out.size
        have HR6 := Aside0.mk ((HGR.out.block _ (by omega) (by omega)).trans HR4.out)
        obtain ⟨m9, hm9⟩ : ∃ m, (rebKids RL t 0 (List.finRange (nK t))).length = m := ⟨_, rfl⟩
        have HM9 := Aside0.mk hm9
        have HOR2 := Aside0.mk (show wr.heap[Ob]? = some (outK 6 (.slice K9 m9 e9)) by rw [← hm9]; exact HOR.out)
        obtain ⟨r0, r1, r2, r3, r4, r5, r6, r7, f0, f1, f2, f3, f4, f5, f6, f7⟩ := row8c HR6.out
        have HK6E := Aside0.mk (show rebP RL t 0 = .mk 6 0 noName (.mk 0 0 []) [] (rebKids RL t 0 (List.finRange (nK t))) by rw [HE.out, HK6.out])
        clear hKT hterm hm9 HE
        go_wp2_with (refine wpList_load_row rfl 28 _ rfl Ob rfl 28 _ (0, 0) _ HOR2.out Try.underlying28 rfl (by kernel_rfl) ?_)
        refine bodyPost_ret (results_c rfl _ _ (w.heap.size + 1 + 1) 28 #[.int .i64 6, .int .i64 0, .string ⟨#[]⟩, .int .i64 0, .int .i64 0, .slice none 0 0, .slice none 0 0, .slice K9 m9 e9] (0, 0) _ rfl (set8 HR6.out) Try.underlying28 rfl (by kernel_rfl)) rfl ?_
        have hch := chg_set8 wr (w.heap.size + 1 + 1) (.int .i64 6) (.int .i64 0) (.string ⟨#[]⟩) (.int .i64 0) (.int .i64 0) (.slice none 0 0) (.slice none 0 0) (.slice K9 m9 e9)
        rw [HK6E.out]
        have hzb := HB4.out.size
        refine ⟨⟨none, 0, none, 0, K9, e9⟩, by unfold tmV; rw [← HM9.out]; rfl, (HTM.out.same fun j hj hz => hch.block j hz (by rcases hj with hj | hj; exact hj.elim; omega)).mono fun j hj _ => .inr (by rcases hj with hj | hj; exact hj.elim; omega), ?_⟩
        exact Chg.trans_below (S := fun j => j = Ob ∨ j = w.heap.size + 1 + 1) HB4.out (chg_trans (HGR.out.mono fun j h => .inl h) (hch.mono fun j h => .inr h)) (fun j h => by omega) hzb
end
end Go.Proofs.Ytdboloabpjmgaaa

/-! Db -/
namespace Go.Proofs.Ytdboloabpjmgaaa
open Go.RowKit Go.Proofs.YtdboloabpjmgaaaW.PrintWords Go.RegionInvYtdboloabpjmgaaa Go.RegionEYtdboloabpjmgaaa

theorem tm_retF {w w3 W8 : World} {g m : Nat} {y : Tm} {q : Pl} (ht : TmS w3 (fun k => False ∨ m ≤ k) q y) (hch : Chg (fun k => k = g) w3 W8) (hg : w.heap.size ≤ g) (hm : g < m) (hb : Below w.heap.size w w3) : TmGot w (fun _ => False) y (.returned (tmV q y)) W8 :=
  tm_retS (S := fun _ => False) (g0 := 0) ht hch (Nat.zero_le _) hg hm hb (fun _ h => h.elim)
set_option maxHeartbeats 4000000 in
theorem refvar_calls (S : Nat → Prop) (n : Int) (w : World) (hn : -9223372036854775808 ≤ n ∧ n ≤ 9223372036854775807) : Calls Try.prog 15 #[.int .i64 n] w (TmGot w S (varT n)) := by
  go_enter Try.func15, Try.ntmps15
  go_wp2
  refine bodyPost_ret (results_c rfl _ _ w.heap.size 28 #[.int .i64 1, .int .i64 n, .string ⟨#[]⟩, .int .i64 0, .int .i64 0, .slice none 0 0, .slice none 0 0, .slice none 0 0] (0, 0) _ rfl (blk_new w _) Try.underlying28 rfl (by kernel_rfl)) rfl ?_
  exact ⟨⟨none, 0, none, 0, none, 0⟩, rfl, TmS.flat (LvS.leaf _ _ _ _) (LvS.leaf _ _ _ _) _ _ _ ⟨hn, by decide, by simp⟩, below_alloc (Below.refl _ _) _⟩
theorem app_row {w : World} {S : Nat → Prop} {g : Nat} {pa : Pl} {a : Tm} {pb : Pl} {b : Tm} (h : w.heap[g]? = some (.cells (tmC pa a ++ tmC pb b).toArray 28 (0, 0))) (hg : S g) (ha : TmS w S pa a) (hb : TmS w S pb b) : TmS w S ⟨none, 0, none, 0, some ⟨g, 0, none⟩, 2⟩ (appT a b) := by
  refine .mk (fun i => if i = 0 then pa else pb) (LvS.leaf _ _ _ _) (LvS.leaf _ _ _ _) (Nat.le_refl 2) (by show (2 : Nat) ≤ 9223372036854775807; decide) ⟨by decide, by decide, by decide⟩ ?_ ?_
  · intro i x hx
    by_cases h0 : i = 0
    · subst h0
      obtain rfl : a = x := by simpa using hx
      refine ⟨g, 0, rfl, hg, fun j v hv => ?_⟩
      have hj : j < 8 := by have := (List.getElem?_eq_some_iff.1 hv).1; rwa [tmC_len] at this
      have e := row_at 0 h hj (by simp only [List.length_append, tmC_len]; omega)
      rw [show 0 + 0 * 8 + j = 0 + j by omega, e]
      have e2 : (tmC pa a ++ tmC pb b)[0 + j]? = (tmC pa a)[j]? := by
        rw [List.getElem?_append_left (by rw [tmC_len]; omega), Nat.zero_add]
      exact e2.trans hv
    by_cases h1 : i = 1
    · subst h1
      obtain rfl : b = x := by simpa using hx
      refine ⟨g, 0, rfl, hg, fun j v hv => ?_⟩
      have hj : j < 8 := by have := (List.getElem?_eq_some_iff.1 hv).1; rwa [tmC_len] at this
      have e := row_at 8 h hj (by simp only [List.length_append, tmC_len]; omega)
      rw [show 0 + 1 * 8 + j = 8 + j by omega, e]
      have e2 : (tmC pa a ++ tmC pb b)[8 + j]? = (tmC pb b)[j]? := by
        rw [List.getElem?_append_right (by rw [tmC_len]; omega), tmC_len, Nat.add_sub_cancel_left]
      exact e2.trans hv
    exfalso
    have := (List.getElem?_eq_some_iff.1 hx).1
    simp only [List.length_cons, List.length_nil] at this
    omega
  · intro i x hx
    by_cases h0 : i = 0
    · subst h0
      obtain rfl : a = x := by simpa using hx
      exact ha
    by_cases h1 : i = 1
    · subst h1
      obtain rfl : b = x := by simpa using hx
      exact hb
    exfalso
    have := (List.getElem?_eq_some_iff.1 hx).1
    simp only [List.length_cons, List.length_nil] at this
    omega
set_option maxRecDepth 100000 in
set_option maxHeartbeats 8000000 in
theorem refapp_calls (S : Nat → Prop) (g0 : Nat) (hS : ∀ k, S k → k < g0) (pa : Pl) (a : Tm) (pb : Pl) (b : Tm) (w : World) (hg0 : g0 ≤ w.heap.size) (ha : TmS w S pa a) (hb : TmS w S pb b) :
    Calls Try.prog 19 #[tmV pa a, tmV pb b] w (TmGot w S (appT a b)) := by
  obtain ⟨W0, hW0⟩ : ∃ W0, W0 = ((w.alloc (tmO pa a)).alloc (tmO pb b)).alloc (outK 0 (.slice none 0 0)) := ⟨_, rfl⟩
  have hb0 : Below w.heap.size w W0 := by rw [hW0]; exact below_alloc (below_alloc (below_alloc (Below.refl _ _) _) _) _
  have hz0 : W0.heap.size = w.heap.size + 1 + 1 + 1 := by rw [hW0]; simp
  have HX0 := Aside0.mk (show W0.heap[w.heap.size]? = some (tmO pa a) by rw [hW0]; exact blk_alloc (box0 w _ _) _)
  have HX1 := Aside0.mk (show W0.heap[w.heap.size + 1]? = some (tmO pb b) by rw [hW0]; exact blk_alloc (box1 w _ _) _)
  have hXR0 : W0.heap[w.heap.size + 1 + 1]? = some (outK 0 (.slice none 0 0)) := by
    rw [hW0]
    have := blk_new ((w.alloc (tmO pa a)).alloc (tmO pb b)) (outK 0 (.slice none 0 0))
    simpa using this
  have HB0 := Aside0.mk hb0
  have HSS := Aside0.mk hS
  have HA := Aside0.mk ha
  have HBB := Aside0.mk hb
  clear ha hb hS hb0
  unfold tmV
  unfold tmO at hW0
  go_enter Try.func19, Try.ntmps19
  go_upto_region 1 with (fail)
  rw [← hW0]
  clear hW0
  obtain ⟨r0, r1, r2, r3, r4, r5, r6, r7, f0, f1, f2, f3, f4, f5, f6, f7⟩ := row8c hXR0
  go_wp2_with (first
    | (refine wpList_load_row rfl 28 _ rfl (w.heap.size) rfl 28 _ (0, 0) _ HX0.out Try.underlying28 rfl (by kernel_rfl) ?_)
    | (refine wpList_load_row rfl 28 _ rfl (w.heap.size + 1) rfl 28 _ (0, 0) _ HX1.out Try.underlying28 rfl (by kernel_rfl) ?_))
  have hch := chg_set8 W0 (w.heap.size + 1 + 1) (.int .i64 6) (.int .i64 0) (.string ⟨#[]⟩) (.int .i64 0) (.int .i64 0) (.slice none 0 0) (.slice none 0 0) (.slice (some ⟨w.heap.size + 1 + 1 + 1, 0, none⟩) 2 2)
  have hs8 := set8 (a0 := .int .i64 6) (a1 := .int .i64 0) (a2 := .string ⟨#[]⟩) (a3 := .int .i64 0) (a4 := .int .i64 0) (a5 := .slice none 0 0) (a6 := .slice none 0 0) (a7 := .slice (some ⟨w.heap.size + 1 + 1 + 1, 0, none⟩) 2 2) hXR0
  obtain ⟨W1, hW1⟩ : ∃ W1, W1 = ((((((((W0.setCell ⟨w.heap.size + 1 + 1, 0, none⟩ (.int .i64 6)).setCell ⟨w.heap.size + 1 + 1, 1, none⟩ (.int .i64 0)).setCell ⟨w.heap.size + 1 + 1, 2, none⟩ (.string ⟨#[]⟩)).setCell ⟨w.heap.size + 1 + 1, 3, none⟩ (.int .i64 0)).setCell ⟨w.heap.size + 1 + 1, 4, none⟩ (.int .i64 0)).setCell ⟨w.heap.size + 1 + 1, 5, none⟩ (.slice none 0 0)).setCell ⟨w.heap.size + 1 + 1, 6, none⟩ (.slice none 0 0)).setCell ⟨w.heap.size + 1 + 1, 7, none⟩ (.slice (some ⟨w.heap.size + 1 + 1 + 1, 0, none⟩) 2 2)) := ⟨_, rfl⟩
  have hz1 : W1.heap.size = w.heap.size + 1 + 1 + 1 := by rw [hW1, ← hz0]; simp only [World.size_setCell]
  rw [← hW1] at hch hs8 ⊢
  clear hW1
  refine bodyPost_ret (results_c rfl _ _ (w.heap.size + 1 + 1) 28 #[.int .i64 6, .int .i64 0, .string ⟨#[]⟩, .int .i64 0, .int .i64 0, .slice none 0 0, .slice none 0 0, .slice (some ⟨w.heap.size + 1 + 1 + 1, 0, none⟩) 2 2] (0, 0) _ rfl (blk_alloc hs8 _) Try.underlying28 rfl (by kernel_rfl)) rfl ?_
  have hb1 : Below w.heap.size w W1 := Chg.trans_below HB0.out hch (fun _ e => by omega) (by omega)
  have hb2 : Below w.heap.size w (W1.alloc (.cells (tmC pa a ++ tmC pb b).toArray 28 (0, 0))) := hb1.alloc (by omega) _
  have hrow := blk_new W1 (.cells (tmC pa a ++ tmC pb b).toArray 28 (0, 0))
  rw [hz1] at hrow
  exact ⟨⟨none, 0, none, 0, some ⟨w.heap.size + 1 + 1 + 1, 0, none⟩, 2⟩, rfl, app_row (S := fun k => S k ∨ w.heap.size ≤ k) hrow (.inr (by omega)) ((TmS.stay HA.out HSS.out (hb2.mono hg0)).mono fun k h _ => .inl h) ((TmS.stay HBB.out HSS.out (hb2.mono hg0)).mono fun k h _ => .inl h), hb2⟩
def rlL (c : Int) (t : Tm) (_ : Int) : Tm := if t.kind = 1 then varT (max 0 c) else t
def rpL (v : Tm) (t : Tm) (_ : Int) : Tm := if t.kind = 1 then v else t
theorem varT_flat (w : World) (S : Nat → Prop) (n : Int) (hn : -9223372036854775808 ≤ n ∧ n ≤ 9223372036854775807) : TmS w S plz (varT n) := TmS.flat (LvS.leaf _ _ _ _) (LvS.leaf _ _ _ _) _ _ _ ⟨hn, by decide, by simp⟩
theorem zeroT_flat (w : World) (S : Nat → Prop) : TmS w S plz zeroT := TmS.flat (LvS.leaf _ _ _ _) (LvS.leaf _ _ _ _) _ _ _ ⟨by decide, by decide, by simp⟩
theorem rwkL_calls (S : Nat → Prop) (g0 : Nat) (hS : ∀ k, S k → k < g0) (by_ : Int) (hby : -1048576 ≤ by_ ∧ by_ ≤ 1048576) {t : Tm} (ht : Bt t) (p : Pl) (w : World) (hg0 : g0 ≤ w.heap.size) (hin : TmS w S p t) :
    Calls Try.prog 66 #[chV 0 0 by_ plz zeroT, tmV p t, .int .i64 0] w (TmGot w (fun _ => False) (rebP (rlL by_) t 0)) := by
  refine rwk_calls 0 by_ plz zeroT (rlL by_) g0 S (fun _ => True) hS (fun _ _ _ _ => trivial) ?_ ht p w hg0 trivial hin
  rintro t w (rfl | rfl) _ _
  · exact leafV_calls by_ plz w hby (varT_flat w _ 0 (by decide))
  · exact leafZ_calls 0 by_ plz zeroT plz w (.inl rfl) (zeroT_flat w _)
set_option maxRecDepth 100000 in
set_option maxHeartbeats 4000000 in
theorem rlift_calls (S : Nat → Prop) (g0 : Nat) (hS : ∀ k, S k → k < g0) (by_ : Int) (hby : -1048576 ≤ by_ ∧ by_ ≤ 1048576) {t : Tm} (ht : Bt t) (p : Pl) (w : World) (hg0 : g0 ≤ w.heap.size) (hin : TmS w S p t) :
    Calls Try.prog 69 #[tmV p t, .int .i64 0, .int .i64 by_] w (TmGot w (fun _ => False) (rebP (rlL by_) t 0)) := by
  obtain ⟨W, hW⟩ : ∃ W, W = (w.alloc (tmO p t)).alloc (outK 0 (.slice none 0 0)) := ⟨_, rfl⟩
  have hb : Below w.heap.size w W := by rw [hW]; exact below_alloc (below_alloc (Below.refl _ _) _) _
  have HX := Aside0.mk (show W.heap[w.heap.size]? = some (tmO p t) by rw [hW]; exact box0 w _ _)
  have HX1 := Aside0.mk (show W.heap[w.heap.size + 1]? = some (outK 0 (.slice none 0 0)) by rw [hW]; exact box1 w _ _)
  have HZ := Aside0.mk (show w.heap.size + 1 < W.heap.size by rw [hW]; simp)
  have HB := Aside0.mk hb
  have HIN := Aside0.mk (TmS.stay hin hS (hb.mono hg0))
  clear hin hb
  have HCA := Aside0.mk (show ∀ w, g0 ≤ w.heap.size → TmS w S p t → Calls Try.prog 66 #[.agg #[.int .i64 0, .int .i64 0, .int .i64 by_, .int .i64 0, .int .i64 0, .string ⟨#[]⟩, .int .i64 0, .int .i64 0, .slice none 0 0, .slice none 0 0, .slice none 0 0, .slice none 0 0], tmV p t, .int .i64 0] w (TmGot w (fun _ => False) (rebP (rlL by_) t 0)) from fun w hg h => rwkL_calls S g0 hS by_ hby ht p w hg h)
  obtain ⟨y, hy⟩ : ∃ y, y = rebP (rlL by_) t 0 := ⟨_, rfl⟩
  have HY := Aside0.mk hy
  rw [← hy]
  clear hy hS hby ht
  unfold tmV
  unfold tmO at hW
  go_enter Try.func69, Try.ntmps69
  go_upto_region 1 with (fail)
  rw [← hW]
  clear hW
  go_wp2_with (first
    | (refine wpList_load_row rfl 28 _ rfl (w.heap.size) rfl 28 _ (0, 0) _ HX.out Try.underlying28 rfl (by kernel_rfl) ?_)
    | (go_at_call 66; go_must (refine (HCA.out W (Nat.le_trans hg0 HB.out.size) HIN.out).mono ?_; rw [← HY.out]; rintro e w3 ⟨q9, rfl, ht9, hb3⟩; have HT9 := Aside0.mk ht9; have HX13 := Aside0.mk ((hb3.block _ (blk_lt HX1.out)).trans HX1.out); have HB3 := Aside0.mk (below_then HB.out HB.out.size hb3); obtain ⟨r0, r1, r2, r3, r4, r5, r6, r7, f0, f1, f2, f3, f4, f5, f6, f7⟩ := row8c HX13.out; clear ht9 hb3; unfold tmV)))
  refine bodyPost_ret (results_c rfl _ _ (w.heap.size + 1) 28 #[.int .i64 y.kind, .int .i64 y.num, .string y.name, .int .i64 y.lv.kind, .int .i64 y.lv.num, .slice q9.A y.lv.kids.length q9.c, .slice q9.B y.ls.length q9.d, .slice q9.K y.kids.length q9.e] (0, 0) _ rfl (set8 HX13.out) Try.underlying28 rfl (by kernel_rfl)) rfl ?_
  exact tm_retF (g := w.heap.size + 1) HT9.out (chg_set8 w3 (w.heap.size + 1) (.int .i64 y.kind) (.int .i64 y.num) (.string y.name) (.int .i64 y.lv.kind) (.int .i64 y.lv.num) (.slice q9.A y.lv.kids.length q9.c) (.slice q9.B y.ls.length q9.d) (.slice q9.K y.kids.length q9.e)) (by omega) HZ.out HB3.out
set_option maxRecDepth 100000 in
set_option maxHeartbeats 4000000 in
theorem refLift_calls (S : Nat → Prop) (g0 : Nat) (hS : ∀ k, S k → k < g0) (by_ : Int) {t : Tm} (ht : Bt t) (hok : okT t) (p : Pl) (w : World) (hg0 : g0 ≤ w.heap.size) (hin : TmS w S p t) :
    Calls Try.prog 24 #[tmV p t, .int .i64 0, .int .i64 by_] w (TmGot w (fun _ => False) (rebP (rlL (max (-1048576) (min by_ 1048576))) t 0)) := by
  obtain ⟨W, hW⟩ : ∃ W, W = (w.alloc (tmO p t)).alloc (outK 0 (.slice none 0 0)) := ⟨_, rfl⟩
  have hb : Below w.heap.size w W := by rw [hW]; exact below_alloc (below_alloc (Below.refl _ _) _) _
  have HX := Aside0.mk (show W.heap[w.heap.size]? = some (tmO p t) by rw [hW]; exact box0 w _ _)
  have HX1 := Aside0.mk (show W.heap[w.heap.size + 1]? = some (outK 0 (.slice none 0 0)) by rw [hW]; exact box1 w _ _)
  have HZ := Aside0.mk (show w.heap.size + 1 < W.heap.size by rw [hW]; simp)
  have HB := Aside0.mk hb
  have HIN := Aside0.mk (TmS.stay hin hS (hb.mono hg0))
  clear hin hb
  have HSS := Aside0.mk hS
  have HG := Aside0.mk (show (!decide (okT t)) = false by simp [hok])
  have HCA := Aside0.mk (show ∀ (c : Int) (w : World), -1048576 ≤ c ∧ c ≤ 1048576 → g0 ≤ w.heap.size → TmS w S p t → Calls Try.prog 69 #[tmV p t, .int .i64 0, .int .i64 c] w (TmGot w (fun _ => False) (rebP (rlL c) t 0)) from fun c w hc hg h => rlift_calls S g0 hS c hc ht p w hg h)
  obtain ⟨y, hy⟩ : ∃ y, y = rebP (rlL (max (-1048576) (min by_ 1048576))) t 0 := ⟨_, rfl⟩
  have HY := Aside0.mk hy
  rw [← hy]
  clear hy hS hok ht
  unfold tmV
  unfold tmO at hW
  go_enter Try.func24, Try.ntmps24
  go_upto_region 1 with (fail)
  rw [← hW]
  clear hW
  go_upto_region 3 with (first
    | (refine wpList_load_row rfl 28 _ rfl (w.heap.size) rfl 28 _ (0, 0) _ HX.out Try.underlying28 rfl (by kernel_rfl) ?_)
    | (go_at_call 26; go_must (refine (tooGreat_calls t p W (TmS.mono HIN.out fun k h _ => Nat.lt_of_lt_of_le (HSS.out k h) (Nat.le_trans hg0 HB.out.size))).mono ?_; rintro e w1 ⟨rfl, hb⟩; rw [HG.out]; have HX01 := Aside0.mk ((hb.block _ (blk_lt HX.out)).trans HX.out); have HX11 := Aside0.mk ((hb.block _ (blk_lt HX1.out)).trans HX1.out); have HB1 := Aside0.mk (below_then HB.out HB.out.size hb); have HZ1 := Aside0.mk (show w.heap.size + 1 + 1 ≤ w1.heap.size by have := hb.size; have := HZ.out; omega); have HIN1 := Aside0.mk (TmS.stay HIN.out HSS.out (hb.mono (Nat.le_trans hg0 HB.out.size))); clear hb)))
  clear HX HX1 HB HIN
  by_cases hb1 : ¬ 1048576 < by_
  · by_cases hb2 : -1048576 < by_
    · have HF := Aside0.mk (show y = rebP (rlL by_) t 0 by rw [HY.out]; congr 2; omega)
      go_wp2_with (first
        | (refine wpList_load_row rfl 28 _ rfl (w.heap.size) rfl 28 _ (0, 0) _ HX01.out Try.underlying28 rfl (by kernel_rfl) ?_)
        | (go_at_call 69; go_must (refine (HCA.out by_ w1 (by omega) (Nat.le_trans hg0 HB1.out.size) HIN1.out).mono ?_; rw [← HF.out]; rintro e w3 ⟨q9, rfl, ht9, hb3⟩; have HT9 := Aside0.mk ht9; have HX13 := Aside0.mk ((hb3.block _ (blk_lt HX11.out)).trans HX11.out); have HB3 := Aside0.mk (below_then HB1.out HB1.out.size hb3); obtain ⟨r0, r1, r2, r3, r4, r5, r6, r7, f0, f1, f2, f3, f4, f5, f6, f7⟩ := row8c HX13.out; clear ht9 hb3; unfold tmV)))
      refine bodyPost_ret (results_c rfl _ _ (w.heap.size + 1) 28 #[.int .i64 y.kind, .int .i64 y.num, .string y.name, .int .i64 y.lv.kind, .int .i64 y.lv.num, .slice q9.A y.lv.kids.length q9.c, .slice q9.B y.ls.length q9.d, .slice q9.K y.kids.length q9.e] (0, 0) _ rfl (set8 HX13.out) Try.underlying28 rfl (by kernel_rfl)) rfl ?_
      exact tm_retF (g := w.heap.size + 1) HT9.out (chg_set8 w3 (w.heap.size + 1) (.int .i64 y.kind) (.int .i64 y.num) (.string y.name) (.int .i64 y.lv.kind) (.int .i64 y.lv.num) (.slice q9.A y.lv.kids.length q9.c) (.slice q9.B y.ls.length q9.d) (.slice q9.K y.kids.length q9.e)) (by omega) HZ1.out HB3.out
    · have HF := Aside0.mk (show y = rebP (rlL (-1048576)) t 0 by rw [HY.out]; congr 2; omega)
      go_wp2_with (first
        | (refine wpList_load_row rfl 28 _ rfl (w.heap.size) rfl 28 _ (0, 0) _ HX01.out Try.underlying28 rfl (by kernel_rfl) ?_)
        | (go_at_call 69; go_must (refine (HCA.out (-1048576) w1 (by omega) (Nat.le_trans hg0 HB1.out.size) HIN1.out).mono ?_; rw [← HF.out]; rintro e w3 ⟨q9, rfl, ht9, hb3⟩; have HT9 := Aside0.mk ht9; have HX13 := Aside0.mk ((hb3.block _ (blk_lt HX11.out)).trans HX11.out); have HB3 := Aside0.mk (below_then HB1.out HB1.out.size hb3); obtain ⟨r0, r1, r2, r3, r4, r5, r6, r7, f0, f1, f2, f3, f4, f5, f6, f7⟩ := row8c HX13.out; clear ht9 hb3; unfold tmV)))
      refine bodyPost_ret (results_c rfl _ _ (w.heap.size + 1) 28 #[.int .i64 y.kind, .int .i64 y.num, .string y.name, .int .i64 y.lv.kind, .int .i64 y.lv.num, .slice q9.A y.lv.kids.length q9.c, .slice q9.B y.ls.length q9.d, .slice q9.K y.kids.length q9.e] (0, 0) _ rfl (set8 HX13.out) Try.underlying28 rfl (by kernel_rfl)) rfl ?_
      exact tm_retF (g := w.heap.size + 1) HT9.out (chg_set8 w3 (w.heap.size + 1) (.int .i64 y.kind) (.int .i64 y.num) (.string y.name) (.int .i64 y.lv.kind) (.int .i64 y.lv.num) (.slice q9.A y.lv.kids.length q9.c) (.slice q9.B y.ls.length q9.d) (.slice q9.K y.kids.length q9.e)) (by omega) HZ1.out HB3.out
  · have hb1' : 1048576 < by_ := by omega
    have HF := Aside0.mk (show y = rebP (rlL 1048576) t 0 by rw [HY.out]; congr 2; omega)
    go_wp2_with (first
      | (refine wpList_load_row rfl 28 _ rfl (w.heap.size) rfl 28 _ (0, 0) _ HX01.out Try.underlying28 rfl (by kernel_rfl) ?_)
      | (go_at_call 69; go_must (refine (HCA.out 1048576 w1 (by omega) (Nat.le_trans hg0 HB1.out.size) HIN1.out).mono ?_; rw [← HF.out]; rintro e w3 ⟨q9, rfl, ht9, hb3⟩; have HT9 := Aside0.mk ht9; have HX13 := Aside0.mk ((hb3.block _ (blk_lt HX11.out)).trans HX11.out); have HB3 := Aside0.mk (below_then HB1.out HB1.out.size hb3); obtain ⟨r0, r1, r2, r3, r4, r5, r6, r7, f0, f1, f2, f3, f4, f5, f6, f7⟩ := row8c HX13.out; clear ht9 hb3; unfold tmV)))
    refine bodyPost_ret (results_c rfl _ _ (w.heap.size + 1) 28 #[.int .i64 y.kind, .int .i64 y.num, .string y.name, .int .i64 y.lv.kind, .int .i64 y.lv.num, .slice q9.A y.lv.kids.length q9.c, .slice q9.B y.ls.length q9.d, .slice q9.K y.kids.length q9.e] (0, 0) _ rfl (set8 HX13.out) Try.underlying28 rfl (by kernel_rfl)) rfl ?_
    exact tm_retF (g := w.heap.size + 1) HT9.out (chg_set8 w3 (w.heap.size + 1) (.int .i64 y.kind) (.int .i64 y.num) (.string y.name) (.int .i64 y.lv.kind) (.int .i64 y.lv.num) (.slice q9.A y.lv.kids.length q9.c) (.slice q9.B y.ls.length q9.d) (.slice q9.K y.kids.length q9.e)) (by omega) HZ1.out HB3.out
set_option maxRecDepth 100000 in
set_option maxHeartbeats 4000000 in
theorem fits_calls (S : Nat → Prop) (g0 : Nat) (hS : ∀ k, S k → k < g0) {t : Tm} (hok : okT t) (p : Pl) (w : World) (hg0 : g0 ≤ w.heap.size) (hin : TmS w S p t) :
    Calls Try.prog 65 #[tmV p t] w (TmGot w S t) := by
  obtain ⟨W, hW⟩ : ∃ W, W = (w.alloc (tmO p t)).alloc (outK 0 (.slice none 0 0)) := ⟨_, rfl⟩
  have hb : Below w.heap.size w W := by rw [hW]; exact below_alloc (below_alloc (Below.refl _ _) _) _
  have HX := Aside0.mk (show W.heap[w.heap.size]? = some (tmO p t) by rw [hW]; exact box0 w _ _)
  have HX1 := Aside0.mk (show W.heap[w.heap.size + 1]? = some (outK 0 (.slice none 0 0)) by rw [hW]; exact box1 w _ _)
  have HZ := Aside0.mk (show w.heap.size + 1 < W.heap.size by rw [hW]; simp)
  have HB := Aside0.mk hb
  have HIN := Aside0.mk (TmS.stay hin hS (hb.mono hg0))
  clear hin hb
  have HSS := Aside0.mk hS
  have HG := Aside0.mk (show (!decide (okT t)) = false by simp [hok])
  clear hS hok
  unfold tmV
  unfold tmO at hW
  go_enter Try.func65, Try.ntmps65
  go_upto_region 1 with (fail)
  rw [← hW]
  clear hW
  go_upto_region 3 with (first
    | (refine wpList_load_row rfl 28 _ rfl (w.heap.size) rfl 28 _ (0, 0) _ HX.out Try.underlying28 rfl (by kernel_rfl) ?_)
    | (go_at_call 26; go_must (refine (tooGreat_calls t p W (TmS.mono HIN.out fun k h _ => Nat.lt_of_lt_of_le (HSS.out k h) (Nat.le_trans hg0 HB.out.size))).mono ?_; rintro e w1 ⟨rfl, hb⟩; rw [HG.out]; have HX01 := Aside0.mk ((hb.block _ (blk_lt HX.out)).trans HX.out); have HX11 := Aside0.mk ((hb.block _ (blk_lt HX1.out)).trans HX1.out); have HB1 := Aside0.mk (below_then HB.out HB.out.size hb); have HZ1 := Aside0.mk (show w.heap.size + 1 + 1 ≤ w1.heap.size by have := hb.size; have := HZ.out; omega); have HIN1 := Aside0.mk (TmS.stay HIN.out HSS.out (hb.mono (Nat.le_trans hg0 HB.out.size))); clear hb)))
  clear HX HX1 HB HIN
  obtain ⟨r0, r1, r2, r3, r4, r5, r6, r7, f0, f1, f2, f3, f4, f5, f6, f7⟩ := row8c HX11.out
  go_wp2_with (refine wpList_load_row rfl 28 _ rfl (w.heap.size) rfl 28 _ (0, 0) _ HX01.out Try.underlying28 rfl (by kernel_rfl) ?_)
  refine bodyPost_ret (results_c rfl _ _ (w.heap.size + 1) 28 #[.int .i64 t.kind, .int .i64 t.num, .string t.name, .int .i64 t.lv.kind, .int .i64 t.lv.num, .slice p.A t.lv.kids.length p.c, .slice p.B t.ls.length p.d, .slice p.K t.kids.length p.e] (0, 0) _ rfl (set8 HX11.out) Try.underlying28 rfl (by kernel_rfl)) rfl ?_
  exact tm_retS (S := S) (g := w.heap.size + 1) (m := w.heap.size + 1 + 1) (HIN1.out.mono fun k h _ => .inl h) (chg_set8 w1 (w.heap.size + 1) (.int .i64 t.kind) (.int .i64 t.num) (.string t.name) (.int .i64 t.lv.kind) (.int .i64 t.lv.num) (.slice p.A t.lv.kids.length p.c) (.slice p.B t.ls.length p.d) (.slice p.K t.kids.length p.e)) hg0 (by omega) (by omega) HB1.out HSS.out
end Go.Proofs.Ytdboloabpjmgaaa

/-! Men -/
namespace Go.Proofs.Ytdboloabpjmgaaa
open Go.RowKit Go.Proofs.YtdboloabpjmgaaaW.PrintWords Go.RegionInvYtdboloabpjmgaaa

def StrAt (w : World) (g : Nat) (s : ByteArray) : Prop := w.heap[g]? = some (.cells #[.string s] 9 (0, 0))
theorem StrAt.cell {w : World} {g : Nat} {s : ByteArray} (h : StrAt w g s) : w.cell? ⟨g, 0, none⟩ = some (.string s) := by rw [cell_of_row _ _ _ _ _ _ h]; rfl
end Go.Proofs.Ytdboloabpjmgaaa

/-! EnU -/
namespace Go.Proofs.Ytdboloabpjmgaaa
open Go.RowKit Go.Proofs.YtdboloabpjmgaaaW.PrintWords Go.RegionInvYtdboloabpjmgaaa Go.RegionEYtdboloabpjmgaaa

def EnAt (w : World) (A : Option Addr) (xs : List (Tm × Int)) : Prop := ∀ (i : Nat) (x : Tm × Int), xs[i]? = some x → ∃ g o q, A = some ⟨g, o, none⟩ ∧ g < w.heap.size ∧ TmIn w w.heap.size q x.1 ∧ ∀ (j : Nat) (v : Value), (enC q x)[j]? = some v → w.cell? ⟨g, o + i * 9 + j, none⟩ = some v
theorem EnAt.later {w w' : World} {A : Option Addr} {xs : List (Tm × Int)} (h : EnAt w A xs) (hb : Below w.heap.size w w') : EnAt w' A xs := fun i x hx => by
  obtain ⟨g, o, q, hA, hg, hi, hc⟩ := h i x hx
  exact ⟨g, o, q, hA, Nat.lt_of_lt_of_le hg hb.size, (TmS.later hi hb).all, fun j v hv => (cell_same (hb.block g hg)).trans (hc j v hv)⟩
theorem KidsE.at {w : World} {S : Nat → Prop} {lo : Nat} {V : Value} {xs : List (Tm × Int)} (h : KidsE w S lo V xs) : ∃ A c, V = .slice A xs.length c ∧ xs.length ≤ c ∧ c ≤ 9223372036854775807 ∧ EnAt w A xs := by
  obtain ⟨cells, q, ho, hk⟩ := h
  obtain ⟨A, c, rfl⟩ := own_slice ho
  refine ⟨A, c, rfl, own_cap ho, own_max ho, fun i x hx => ?_⟩
  have hi : i < xs.length := by
    rcases Nat.lt_or_ge i xs.length with h | h
    · exact h
    · rw [List.getElem?_eq_none h] at hx; cases hx
  obtain ⟨g, cap, hv, hb, hlt⟩ := ho.form (by omega)
  have hv' := hv
  injection hv with hA
  refine ⟨g, 0, q i, hA, hlt, (hk i x hx).2.all, fun j v hjv => ?_⟩
  have := ho.cells (g := g) (by rw [hv']; rfl) _ _ ((hk i x hx).1 j v hjv)
  rwa [add_flat, ← Nat.add_assoc] at this
theorem ends_d (N : Nat) : ∀ (t : Tm), SizeOf.sizeOf t < N → ∀ (d : Int), ∀ y ∈ endsP t d, d ≤ y.2 ∧ y.2 + 1 ≤ d + depthT t := by
  induction N with
  | zero => intro t h; omega
  | succ N ih =>
    intro t hN d y hy
    have hp := depth_pos t
    by_cases h0 : nK t = 0
    · rw [ends_leaf h0] at hy
      obtain rfl : y = (t, d) := by simpa using hy
      exact ⟨Int.le_refl _, by show d + 1 ≤ _; omega⟩
    · rw [ends_node h0] at hy
      obtain ⟨l, hl, hy⟩ := List.mem_flatten.1 hy
      obtain ⟨i, -, rfl⟩ := List.mem_map.1 hl
      have := ih (kidF t i) (by have := kidF_lt t i; omega) _ y hy
      have := depth_kid t i
      have := moreZ_in t i
      omega
theorem ends0_calls (t : Tm) (p : Pl) (w : World) (hin : TmIn w w.heap.size p t) (hok : okT t) : Calls Try.prog 80 #[tmV p t, .int .i64 0, .slice none 0 0] w fun e w' =>
    ∃ A n c, e = .returned (.slice A n c) ∧ n = (endsP t 0).length ∧ n ≤ c ∧ c ≤ 9223372036854775807 ∧ EnAt w' A (endsP t 0) ∧ Below w.heap.size w w' := by
  have h1 := hok.1
  have h2 := hok.2
  refine (ends_calls _ t (Nat.lt_succ_self _) p w.heap.size w.heap.size 0 (.slice none 0 0) [] w hin (Nat.le_refl _) (Nat.le_refl _) (by decide) (by omega) (by show 0 + sizeT t ≤ 30000; omega) (KidsE.nil _ _ _)).mono ?_
  rintro e w' ⟨V, rfl, hE, hG⟩
  rw [List.nil_append] at hE
  obtain ⟨A, c, rfl, hc, hm, hat⟩ := hE.at
  exact ⟨A, _, c, rfl, rfl, hc, hm, hat, hG.1.below (fun k h => by cases h) (Nat.le_refl _)⟩
def ocE (n : Int) (xs : List (Tm × Int)) : Nat := (xs.map fun x => if hitB x.1 (n + x.2) = true then 1 else 0).sum
theorem ocE_cons (n : Int) (x : Tm × Int) (r : List (Tm × Int)) : ocE n (x :: r) = (if hitB x.1 (n + x.2) = true then 1 else 0) + ocE n r := by unfold ocE; rw [List.map_cons, List.sum_cons]
theorem ocE_app (n : Int) (xs ys : List (Tm × Int)) : ocE n (xs ++ ys) = ocE n xs + ocE n ys := by unfold ocE; rw [List.map_append, List.sum_append]
theorem ocE_ends (n : Int) (N : Nat) : ∀ (t : Tm), SizeOf.sizeOf t < N → ∀ (d : Int), ocE n (endsP t d) = occT t (n + d) := by
  induction N with
  | zero => intro t h; omega
  | succ N ih =>
    intro t hN d
    by_cases h0 : nK t = 0
    · rw [ends_leaf h0, occ_leaf h0]; rfl
    · rw [ends_node h0, occ_node (decide_eq_false h0)]
      have key : ∀ (xs : List (Fin (nK t))), ocE n ((xs.map fun i => endsP (kidF t i) (d + moreZ t i)).flatten) = occK t (n + d) xs := by
        intro xs
        induction xs with
        | nil => rfl
        | cons x r ihr =>
          have e2 : occK t (n + d) (x :: r) = occT (kidF t x) (n + d + moreZ t x) + occK t (n + d) r := by unfold occK; rw [List.map_cons, List.sum_cons]
          rw [List.map_cons, List.flatten_cons, ocE_app, ihr, ih (kidF t x) (by have := kidF_lt t x; omega) (d + moreZ t x), e2, Int.add_assoc]
      exact key _
theorem drop_at {α : Type} {xs : List α} {i : Nat} {x : α} (h : xs[i]? = some x) : xs.drop i = x :: xs.drop (i + 1) := by
  obtain ⟨hl, rfl⟩ := List.getElem?_eq_some_iff.1 h
  exact List.drop_eq_getElem_cons hl
abbrev enO (q : Pl) (x : Tm × Int) : Obj := .cells #[.int .i64 x.1.kind, .int .i64 x.1.num, .string x.1.name, .int .i64 x.1.lv.kind, .int .i64 x.1.lv.num, .slice q.A x.1.lv.kids.length q.c, .slice q.B x.1.ls.length q.d, .slice q.K x.1.kids.length q.e, .int .i64 x.2] 81 (0, 0)
theorem row9 {w : World} {g : Nat} {q : Pl} {x : Tm × Int} (h : w.heap[g]? = some (enO q x)) :
    w.cell? ⟨g, 0, none⟩ = some (.int .i64 x.1.kind) ∧ w.cell? ⟨g, 1, none⟩ = some (.int .i64 x.1.num) ∧ w.cell? ⟨g, 2, none⟩ = some (.string x.1.name) ∧ w.cell? ⟨g, 8, none⟩ = some (.int .i64 x.2) := by
  refine ⟨?_, ?_, ?_, ?_⟩ <;> (rw [cell_of_row _ _ _ _ _ _ h]; rfl)
set_option maxRecDepth 100000 in
set_option maxHeartbeats 4000000 in
theorem refOccurs_calls (t : Tm) (p : Pl) (nn : Int) (hnn : 0 ≤ nn ∧ nn ≤ 1000000) (w : World) (hin : TmIn w w.heap.size p t) (hk : okT t) : Calls Try.prog 52 #[tmV p t, .int .i64 nn] w fun e w' => e = .returned (.int .i64 (occT t nn)) ∧ Below w.heap.size w w' := by
  have HIN := Aside0.mk hin
  obtain ⟨W, hW⟩ : ∃ W, W = w.alloc (tmO p t) := ⟨_, rfl⟩
  have hb : Below w.heap.size w W := by rw [hW]; exact below_alloc (Below.refl _ _) _
  have HX := Aside0.mk (show W.heap[w.heap.size]? = some (tmO p t) by rw [hW]; exact blk_new _ _)
  have HB := Aside0.mk hb
  clear hin hb
  unfold tmV
  unfold tmO at hW
  go_enter Try.func52, Try.ntmps52
  go_upto_region 1 with (fail)
  rw [← hW]
  clear hW
  · have HK := Aside0.mk hk
    have HV := Aside0.mk (show ocE nn (endsP t 0) = occT t nn by rw [ocE_ends nn _ t (Nat.lt_succ_self _) 0, Int.add_zero])
    have HDP := Aside0.mk (show 0 + (depthT t : Int) ≤ 2000 by have := hk.2; omega)
    clear hk
    go_wp2_with (first
      | (refine wpList_load_row rfl 28 _ rfl (w.heap.size) rfl 28 _ (0, 0) _ HX.out Try.underlying28 rfl (by kernel_rfl) ?_)
      | (go_at_call 80; go_must (refine (ends0_calls t p W (TmS.all (HIN.out.stay HB.out)) HK.out).mono ?_; rintro e w2 ⟨A, n, c, rfl, hnl, hnc, hcm, hen, hb⟩; have HNL := Aside0.mk hnl; have HEN := Aside0.mk hen; have HB2 := Aside0.mk (below_then HB.out HB.out.size hb); clear hnl hen hb)))
    go_loopw [5, 11] (fun u i wr => ∃ (k : Nat) (m : Nat), i = .int .i64 k ∧ u = .int .i64 m ∧ k ≤ n ∧ (m ≤ k ∧ Aside0 (m + ocE nn ((endsP t 0).drop k) = ocE nn (endsP t 0))) ∧ Aside0 (Below w2.heap.size w2 wr)) (fun _ i _ => n - (intOf i).toNat)
    case atStart => exact ⟨0, 0, rfl, rfl, Nat.zero_le _, ⟨Nat.le_refl _, ⟨by rw [List.drop_zero]; exact Nat.zero_add _⟩⟩, ⟨Below.refl _ _⟩⟩
    case round =>
      obtain ⟨k, m, rfl, rfl, hk, hm, HBL⟩ := hrel
      by_cases hlt : k < n
      · obtain ⟨x, hx⟩ : ∃ x, (endsP t 0)[k]? = some x := ⟨_, List.getElem?_eq_getElem (by have := HNL.out; omega)⟩
        obtain ⟨g, o, q, hA, hg, hxin, hcells⟩ := (HEN.out.later HBL.out) k x hx
        have HDR := Aside0.mk (drop_at hx)
        have hxd := ends_d _ t (Nat.lt_succ_self _) 0 x (List.mem_of_getElem? hx)
        have hxf := hxin.fit.1
        have hdp := HDP.out
        have hx0 : 0 ≤ x.2 := hxd.1
        have hx1 : x.2 ≤ 2000 := by omega
        have e0 := hcells 0 _ rfl
        have e1 := hcells 1 _ rfl
        have e2 := hcells 2 _ rfl
        have e3 := hcells 3 _ rfl
        have e4 := hcells 4 _ rfl
        have e5 := hcells 5 _ rfl
        have e6 := hcells 6 _ rfl
        have e7 := hcells 7 _ rfl
        have e8 := hcells 8 _ rfl
        rw [Nat.add_zero] at e0
        subst hA
        clear hcells hxin hx hxd hdp hg
        go_upto_region 5 with (fail)
        obtain ⟨W5, hW5⟩ : ∃ W5, W5 = wr.alloc (enO q x) := ⟨_, rfl⟩
        have hb5 : Below wr.heap.size wr W5 := by rw [hW5]; exact below_alloc (Below.refl _ _) _
        have HX5 := Aside0.mk (show W5.heap[wr.heap.size]? = some (enO q x) by rw [hW5]; exact blk_new _ _)
        have HB5 := Aside0.mk (below_then HBL.out HBL.out.size hb5)
        unfold enO at hW5
        rw [← hW5]
        clear hW5 hb5 e0 e1 e2 e3 e4 e5 e6 e7 e8
        obtain ⟨r0, r1, r2, r8⟩ := row9 HX5.out
        have HMX := Aside0.mk (show m + (if hitB x.1 (nn + x.2) = true then 1 else 0) + ocE nn ((endsP t 0).drop (k + 1)) = ocE nn (endsP t 0) by rw [← hm.2.out, HDR.out, ocE_cons]; omega)
        obtain ⟨xn, hxn⟩ : ∃ y, x.1.num = y := ⟨_, rfl⟩
        obtain ⟨xd, hxd⟩ : ∃ y, x.2 = y := ⟨_, rfl⟩
        rw [hxn] at r1 hxf
        rw [hxd] at r8 hx0 hx1
        have hm1 := hm.1
        have hw : wrap64 (nn + xd) = nn + xd := by unfold wrap64; omega
        by_cases k1 : x.1.kind = 1
        · have b1 : (x.1.kind == 1) = true := by simp [k1]
          by_cases k2 : xn = nn + xd
          · have b2 : (xn == nn + xd) = true := by simp [k2]
            have HME := Aside0.mk (show hitB x.1 (nn + x.2) = true from decide_eq_true ⟨k1, by rw [hxn, hxd]; exact k2⟩)
            clear k1 k2 hm hxn hxd
            go_wp2
            go_roundw
            case rel => exact ⟨k + 1, m + 1, by go_num, by go_num, by omega, ⟨by omega, ⟨by have h := HMX.out; rw [HME.out] at h; exact h⟩⟩, HB5⟩
            case measure => (simp [intOf]; try omega)
          · have b2 : (xn == nn + xd) = false := by simp [k2]
            have HME := Aside0.mk (show hitB x.1 (nn + x.2) = false from decide_eq_false fun h => k2 (by rw [← hxn, ← hxd]; exact h.2))
            clear k1 k2 hm hxn hxd
            go_wp2
            go_roundw
            case rel => exact ⟨k + 1, m, by go_num, rfl, by omega, ⟨by omega, ⟨by have h := HMX.out; rw [HME.out] at h; exact h⟩⟩, HB5⟩
            case measure => (simp [intOf]; try omega)
        · have b1 : (x.1.kind == 1) = false := by simp [k1]
          have HME := Aside0.mk (show hitB x.1 (nn + x.2) = false from decide_eq_false fun h => k1 h.1)
          clear k1 hm hxn hxd
          go_wp2
          go_roundw
          case rel => exact ⟨k + 1, m, by go_num, rfl, by omega, ⟨by omega, ⟨by have h := HMX.out; rw [HME.out] at h; exact h⟩⟩, HB5⟩
          case measure => (simp [intOf]; try omega)
      · obtain rfl : k = n := by omega
        have hlt' : decide ((k : Int) < k) = false := by simp
        have HFIN := Aside0.mk (below_then HB2.out HB2.out.size HBL.out)
        have HZ := Aside0.mk (show occT t nn = m by
          have h := hm.2.out
          rw [List.drop_of_length_le (by have := HNL.out; omega), HV.out] at h
          rw [← h]
          rfl)
        go_wp2
        go_ret
        rw [HZ.out]
        exact ⟨rfl, HFIN.out⟩
end Go.Proofs.Ytdboloabpjmgaaa

/-! NeqB -/
namespace Go.Proofs.Ytdboloabpjmgaaa
open Go.RowKit Go.Proofs.YtdboloabpjmgaaaW.PrintWords Go.RegionInvYtdboloabpjmgaaa Go.RegionEYtdboloabpjmgaaa
section
variable {P : Program} {ops : Array Oper} {Q : Exit → Act → World → Prop} {Cj : List Nat} {O : Nat → Nat → Prop} {G : Value → World → (Nat → Prop) → Prop} {o : Oper} {a : Act} {w : World}
theorem ob_neB {t t' : TypeId} {x y : Operand} {m n : Bool} (b : Bool) (ho : o.op = .binOp .neq t x y t') (hx : a.eval x = .bool m) (hy : a.eval y = .bool n) (hu : P.underlying t = some .bool) (hb : (m != n) = b)
    (hw : Region.wanted o (yielded ops a.tmps) = true) (hG : G (.bool b) w fun _ => False) : Owes P ops Q Cj O G o a w :=
  ob_run hw (by unfold execOp; rw [ho]; simp only []; rw [hx, hy]; subst hb; simp [go_sem, run_neq_bool w t m n hu, bne]) hG
end
end Go.Proofs.Ytdboloabpjmgaaa

/-! SeR -/
namespace Go.Proofs.Ytdboloabpjmgaaa
open Go.RowKit Go.Proofs.YtdboloabpjmgaaaW.PrintWords Go.RegionInvYtdboloabpjmgaaa Go.RegionEYtdboloabpjmgaaa
set_option linter.unusedVariables false

theorem below_undrew {w0 w : World} (h : Below w0.drew.heap.size w0.drew w) : Below w0.heap.size w0 w := Below.trans (below_drew (Below.refl _ _)) h

end Go.Proofs.Ytdboloabpjmgaaa

/-! NrR -/
namespace Go.Proofs.Ytdboloabpjmgaaa
open Go.RowKit Go.Proofs.YtdboloabpjmgaaaW.PrintWords Go.RegionInvYtdboloabpjmgaaa Go.RegionEYtdboloabpjmgaaa
set_option linter.unusedVariables false

def nrn_ops : List Oper := [
  { dst := some 7, op := Go.Op.fieldAddr 28 (Go.Operand.tmp 2) 0, type := 0, pos := "law.go:62", after := #[], guard := none },
  { dst := some 8, op := Go.Op.load 3 (Go.Operand.tmp 7), type := 3, pos := "law.go:62", after := #[{ on := 0, ground := Go.Ground.data }], guard := none },
  { dst := some 9, op := Go.Op.fieldAddr 28 (Go.Operand.tmp 3) 0, type := 0, pos := "law.go:62", after := #[], guard := none },
  { dst := some 10, op := Go.Op.load 3 (Go.Operand.tmp 9), type := 3, pos := "law.go:62", after := #[{ on := 2, ground := Go.Ground.data }], guard := none },
  { dst := some 11, op := Go.Op.binOp Go.BinOp.neq 3 (Go.Operand.tmp 8) (Go.Operand.tmp 10) 3, type := 4, pos := "law.go:62", after := #[{ on := 1, ground := Go.Ground.data }, { on := 3, ground := Go.Ground.data }], guard := none },
  { dst := some 12, op := Go.Op.move (Go.Operand.tmp 11), type := 4, pos := "law.go:62", after := #[{ on := 4, ground := Go.Ground.data }], guard := none },
  { dst := some 13, op := Go.Op.load 28 (Go.Operand.tmp 2), type := 28, pos := "law.go:62", after := #[{ on := 5, ground := Go.Ground.guard }], guard := some (5, false) },
  { dst := some 14, op := Go.Op.call { callee := Go.Callee.value (Go.Operand.func 77), args := #[Go.Operand.tmp 13], argTypes := #[28] }, type := 4, pos := "law.go:62", after := #[{ on := 6, ground := Go.Ground.data }, { on := 5, ground := Go.Ground.chain }, { on := 5, ground := Go.Ground.guard }], guard := some (5, false) },
  { dst := some 15, op := Go.Op.load 28 (Go.Operand.tmp 3), type := 28, pos := "law.go:62", after := #[{ on := 5, ground := Go.Ground.guard }], guard := some (5, false) },
  { dst := some 16, op := Go.Op.call { callee := Go.Callee.value (Go.Operand.func 77), args := #[Go.Operand.tmp 15], argTypes := #[28] }, type := 4, pos := "law.go:62", after := #[{ on := 8, ground := Go.Ground.data }, { on := 7, ground := Go.Ground.chain }, { on := 5, ground := Go.Ground.guard }], guard := some (5, false) },
  { dst := some 17, op := Go.Op.binOp Go.BinOp.neq 4 (Go.Operand.tmp 14) (Go.Operand.tmp 16) 4, type := 4, pos := "law.go:62", after := #[{ on := 7, ground := Go.Ground.data }, { on := 9, ground := Go.Ground.data }, { on := 5, ground := Go.Ground.guard }], guard := some (5, false) },
  { dst := some 18, op := Go.Op.pick (Go.Operand.tmp 12) (Go.Operand.const (Go.Value.bool true)) (Go.Operand.tmp 17), type := 4, pos := "law.go:62", after := #[{ on := 5, ground := Go.Ground.data }, { on := 10, ground := Go.Ground.data }], guard := none }]
def nrn_F (w0 : World) (g h : Nat) (p q : Pl) (t u : Tm) : Nat → (Nat → Value) → Value → World → (Nat → Prop) → Prop := fun rix => match rix with
  | 0 => fun _ v _ _ => v = .pointer (some ⟨g, 0, none⟩)
  | 1 => fun _ v _ _ => v = .int .i64 t.kind
  | 2 => fun _ v _ _ => v = .pointer (some ⟨h, 0, none⟩)
  | 3 => fun _ v _ _ => v = .int .i64 u.kind
  | 4 => fun _ v _ _ => v = .bool true
  | 5 => fun _ v _ _ => v = .bool true
  | 6 => fun _ v _ _ => v = undef
  | 7 => fun _ v _ _ => v = undef
  | 8 => fun _ v _ _ => v = undef
  | 9 => fun _ v _ _ => v = undef
  | 10 => fun _ v _ _ => v = undef
  | 11 => fun _ v _ _ => v = .bool true
  | _ => fun _ _ _ _ => True
def nrn_C : Nat → List Nat := fun rix => match rix with
  | _ => []
theorem nrn_nw2 : nwB nrn_ops.toArray 2 = true := by kernel_rfl
theorem nrn_nw3 : nwB nrn_ops.toArray 3 = true := by kernel_rfl
set_option maxRecDepth 100000 in
set_option maxHeartbeats 8000000 in
theorem nrn_obs (w0 : World) (g h : Nat) (p q : Pl) (t u : Tm) (hx2 : w0.heap[g]? = some (tmO p t)) (hx3 : w0.heap[h]? = some (tmO q u)) (hkk : t.kind ≠ u.kind) (Q : Exit → Act → World → Prop) (a0 : Act) (hi2 : a0.tmps.getD 2 undef = .pointer (some ⟨g, 0, none⟩)) (hi3 : a0.tmps.getD 3 undef = .pointer (some ⟨h, 0, none⟩)) :
    ObsE Try.prog nrn_ops.toArray Q (est2 0 0 (fun _ => False) (fun _ => False)) nrn_C (nrn_F w0 g h p q t u) a0 w0 nrn_ops.toArray.toList 0 := by
  have nw2 := nrn_nw2
  have nw3 := nrn_nw3
  refine ⟨?_, ?_, ?_, ?_, ?_, ?_, ?_, ?_, ?_, ?_, ?_, ?_, trivial⟩
  · refine ⟨⟨fun τ => stableE_det _, leans_not⟩, ?_⟩
    intro a w O hk
    have e2 : a.eval (.tmp 2) = .pointer (some ⟨g, 0, none⟩) := (hk.init 2 (initialB_of_nw nw2)).trans hi2
    exact obE_run (wanted_none rfl) (by unfold execOp; simp only []; rw [e2]; go_simp) rfl
  · refine ⟨⟨fun τ => stableE_det _, leans_not⟩, ?_⟩
    intro a w O hk
    have e7 : a.eval (.tmp 7) = .pointer (some ⟨g, 0, none⟩) := hk.fact 0 _ 7 rfl rfl rfl rfl
    have x2 := hk.world.still hx2 (fun ⟨_, h⟩ => h.elim And.right And.right)
    obtain ⟨p0, p1, p2, p3, p4, p5, p6, p7⟩ := row8 x2
    exact obE_run (wanted_none rfl) (by unfold execOp; simp only []; rw [e7]; go_simp) rfl
  · refine ⟨⟨fun τ => stableE_det _, leans_not⟩, ?_⟩
    intro a w O hk
    have e3 : a.eval (.tmp 3) = .pointer (some ⟨h, 0, none⟩) := (hk.init 3 (initialB_of_nw nw3)).trans hi3
    exact obE_run (wanted_none rfl) (by unfold execOp; simp only []; rw [e3]; go_simp) rfl
  · refine ⟨⟨fun τ => stableE_det _, leans_not⟩, ?_⟩
    intro a w O hk
    have e9 : a.eval (.tmp 9) = .pointer (some ⟨h, 0, none⟩) := hk.fact 2 _ 9 rfl rfl rfl rfl
    have x3 := hk.world.still hx3 (fun ⟨_, h⟩ => h.elim And.right And.right)
    obtain ⟨p0, p1, p2, p3, p4, p5, p6, p7⟩ := row8 x3
    exact obE_run (wanted_none rfl) (by unfold execOp; simp only []; rw [e9]; go_simp) rfl
  · refine ⟨⟨fun τ => stableE_det _, leans_not⟩, ?_⟩
    intro a w O hk
    have e8 : a.eval (.tmp 8) = .int .i64 t.kind := hk.fact 1 _ 8 rfl rfl rfl rfl
    have e10 : a.eval (.tmp 10) = .int .i64 u.kind := hk.fact 3 _ 10 rfl rfl rfl rfl
    exact toE (ob_neqInt true rfl e8 e10 (by simp [hkk]) (wanted_none rfl) rfl)
  · refine ⟨⟨fun τ => stableE_det _, leans_not⟩, ?_⟩
    intro a w O hk
    have e11 : a.eval (.tmp 11) = .bool true := hk.fact 4 _ 11 rfl rfl rfl rfl
    exact toE (ob_move rfl e11 (wanted_none rfl) rfl)
  · refine ⟨⟨fun τ => stableE_det _, leans_not⟩, ?_⟩
    intro a w O hk
    have e2 : a.eval (.tmp 2) = .pointer (some ⟨g, 0, none⟩) := (hk.init 2 (initialB_of_nw nw2)).trans hi2
    have e12 : a.eval (.tmp 12) = .bool true := hk.fact 5 _ 12 rfl rfl rfl rfl
    exact toE (ob_skip (unwanted_of rfl rfl rfl e12 (by decide)) rfl)
  · refine ⟨⟨fun τ => stableE_det _, leans_not⟩, ?_⟩
    intro a w O hk
    have e13 : a.eval (.tmp 13) = undef := hk.fact 6 _ 13 rfl rfl rfl rfl
    have e12 : a.eval (.tmp 12) = .bool true := hk.fact 5 _ 12 rfl rfl rfl rfl
    exact toE (ob_skip (unwanted_of rfl rfl rfl e12 (by decide)) rfl)
  · refine ⟨⟨fun τ => stableE_det _, leans_not⟩, ?_⟩
    intro a w O hk
    have e3 : a.eval (.tmp 3) = .pointer (some ⟨h, 0, none⟩) := (hk.init 3 (initialB_of_nw nw3)).trans hi3
    have e12 : a.eval (.tmp 12) = .bool true := hk.fact 5 _ 12 rfl rfl rfl rfl
    exact toE (ob_skip (unwanted_of rfl rfl rfl e12 (by decide)) rfl)
  · refine ⟨⟨fun τ => stableE_det _, leans_not⟩, ?_⟩
    intro a w O hk
    have e15 : a.eval (.tmp 15) = undef := hk.fact 8 _ 15 rfl rfl rfl rfl
    have e12 : a.eval (.tmp 12) = .bool true := hk.fact 5 _ 12 rfl rfl rfl rfl
    exact toE (ob_skip (unwanted_of rfl rfl rfl e12 (by decide)) rfl)
  · refine ⟨⟨fun τ => stableE_det _, leans_not⟩, ?_⟩
    intro a w O hk
    have e14 : a.eval (.tmp 14) = undef := hk.fact 7 _ 14 rfl rfl rfl rfl
    have e16 : a.eval (.tmp 16) = undef := hk.fact 9 _ 16 rfl rfl rfl rfl
    have e12 : a.eval (.tmp 12) = .bool true := hk.fact 5 _ 12 rfl rfl rfl rfl
    exact toE (ob_skip (unwanted_of rfl rfl rfl e12 (by decide)) rfl)
  · refine ⟨⟨fun τ => stableE_det _, leans_not⟩, ?_⟩
    intro a w O hk
    have e12 : a.eval (.tmp 12) = .bool true := hk.fact 5 _ 12 rfl rfl rfl rfl
    have e17 : a.eval (.tmp 17) = undef := hk.fact 10 _ 17 rfl rfl rfl rfl
    exact toE (ob_pick rfl e12 rfl (wanted_none rfl) rfl)
set_option maxRecDepth 100000 in
set_option maxHeartbeats 8000000 in
theorem nrn_region {Q : Exit → Act → World → Prop} {id : Nat} (w0 : World) (g h : Nat) (p q : Pl) (t u : Tm) {s0 s1 s4 s5 s6 s7 s8 s9 s10 s11 s12 s13 s14 s15 s16 s17 s18 s19 s20 s21 s22 s23 s24 s25 s26 s27 s28 s29 s30 s31 s32 s33 s34 s35 s36 s37 s38 s39 s40 s41 s42 s43 s44 s45 s46 s47 s48 s49 s50 s51 s52 s53 s54 s55 s56 s57 s58 s59 s60 s61 s62 s63 s64 s65 s66 s67 s68 s69 s70 s71 s72 s73 s74 s75 s76 s77 s78 s79 s80 s81 s82 s83 s84 s85 s86 s87 s88 s89 s90 : Value} (hx2 : w0.heap[g]? = some (tmO p t)) (hx3 : w0.heap[h]? = some (tmO q u)) (hkk : t.kind ≠ u.kind)
    (hend : ∀ (w' : World), Chg (fun k => False ∨ False) w0 w' → Q .normal { tmps := (s0 :: s1 :: (.pointer (some ⟨g, 0, none⟩)) :: (.pointer (some ⟨h, 0, none⟩)) :: s4 :: s5 :: s6 :: (.pointer (some ⟨g, 0, none⟩)) :: (.int .i64 t.kind) :: (.pointer (some ⟨h, 0, none⟩)) :: (.int .i64 u.kind) :: (.bool true) :: (.bool true) :: undef :: undef :: undef :: undef :: undef :: (.bool true) :: s19 :: s20 :: s21 :: s22 :: s23 :: s24 :: s25 :: s26 :: s27 :: s28 :: s29 :: s30 :: s31 :: s32 :: s33 :: s34 :: s35 :: s36 :: s37 :: s38 :: s39 :: s40 :: s41 :: s42 :: s43 :: s44 :: s45 :: s46 :: s47 :: s48 :: s49 :: s50 :: s51 :: s52 :: s53 :: s54 :: s55 :: s56 :: s57 :: s58 :: s59 :: s60 :: s61 :: s62 :: s63 :: s64 :: s65 :: s66 :: s67 :: s68 :: s69 :: s70 :: s71 :: s72 :: s73 :: s74 :: s75 :: s76 :: s77 :: s78 :: s79 :: s80 :: s81 :: s82 :: s83 :: s84 :: s85 :: s86 :: s87 :: s88 :: s89 :: s90 :: [] : List Value).toArray, defers := [] } w') :
    (Code.region id nrn_ops.toArray true).wp Try.prog Q { tmps := (s0 :: s1 :: (.pointer (some ⟨g, 0, none⟩)) :: (.pointer (some ⟨h, 0, none⟩)) :: s4 :: s5 :: s6 :: s7 :: s8 :: s9 :: s10 :: s11 :: s12 :: s13 :: s14 :: s15 :: s16 :: s17 :: s18 :: s19 :: s20 :: s21 :: s22 :: s23 :: s24 :: s25 :: s26 :: s27 :: s28 :: s29 :: s30 :: s31 :: s32 :: s33 :: s34 :: s35 :: s36 :: s37 :: s38 :: s39 :: s40 :: s41 :: s42 :: s43 :: s44 :: s45 :: s46 :: s47 :: s48 :: s49 :: s50 :: s51 :: s52 :: s53 :: s54 :: s55 :: s56 :: s57 :: s58 :: s59 :: s60 :: s61 :: s62 :: s63 :: s64 :: s65 :: s66 :: s67 :: s68 :: s69 :: s70 :: s71 :: s72 :: s73 :: s74 :: s75 :: s76 :: s77 :: s78 :: s79 :: s80 :: s81 :: s82 :: s83 :: s84 :: s85 :: s86 :: s87 :: s88 :: s89 :: s90 :: [] : List Value).toArray, defers := [] } w0 := by
  refine wp_region_est (by kernel_rfl) (est2 0 0 (fun _ => False) (fun _ => False)) nrn_C (nrn_F w0 g h p q t u) (est2_dis (fun _ h _ => h)) (est2_range (fun _ h => h.elim) (fun _ h => h.elim)) (by rfl) (by kernel_rfl) (nrn_obs w0.drew g h p q t u hx2 hx3 hkk _ _ rfl rfl) ?_
  intro a w' O hd hs hb hf hf2 ha hsame
  have hl := slots_eq (ops := nrn_ops.toArray) [(7, .pointer (some ⟨g, 0, none⟩)), (8, .int .i64 t.kind), (9, .pointer (some ⟨h, 0, none⟩)), (10, .int .i64 u.kind), (11, .bool true), (12, .bool true), (13, undef), (14, undef), (15, undef), (16, undef), (17, undef), (18, .bool true)] (show a.tmps.size = 91 from hs) (fun i h => hsame i h) ⟨(hf 0 _ 7 rfl rfl (by decide)).1, (hf 1 _ 8 rfl rfl (by decide)).1, (hf 2 _ 9 rfl rfl (by decide)).1, (hf 3 _ 10 rfl rfl (by decide)).1, (hf 4 _ 11 rfl rfl (by decide)).1, (hf 5 _ 12 rfl rfl (by decide)).1, (hf 6 _ 13 rfl rfl (by decide)).1, (hf 7 _ 14 rfl rfl (by decide)).1, (hf 8 _ 15 rfl rfl (by decide)).1, (hf 9 _ 16 rfl rfl (by decide)).1, (hf 10 _ 17 rfl rfl (by decide)).1, (hf 11 _ 18 rfl rfl (by decide)).1, trivial⟩ (by kernel_rfl)
  obtain ⟨tmps, defers⟩ := a
  obtain rfl : defers = [] := hd
  have hl' : tmps = _ := hl
  rw [hl']
  have hb' := est2_chg hb
  refine Eq.mp ?_ (hend w' ⟨hb'.os, hb'.tape, hb'.output, hb'.size, hb'.block⟩)
  kernel_rfl

def nry_F (w0 : World) (g h : Nat) (p q : Pl) (t u : Tm) (la lb nl : Bool) : Nat → (Nat → Value) → Value → World → (Nat → Prop) → Prop := fun rix => match rix with
  | 0 => fun _ v _ _ => v = .pointer (some ⟨g, 0, none⟩)
  | 1 => fun _ v _ _ => v = .int .i64 t.kind
  | 2 => fun _ v _ _ => v = .pointer (some ⟨h, 0, none⟩)
  | 3 => fun _ v _ _ => v = .int .i64 u.kind
  | 4 => fun _ v _ _ => v = .bool false
  | 5 => fun _ v _ _ => v = .bool false
  | 6 => fun _ v _ _ => v = tmV p t
  | 7 => fun _ v _ _ => v = .bool la
  | 8 => fun _ v _ _ => v = tmV q u
  | 9 => fun _ v _ _ => v = .bool lb
  | 10 => fun _ v _ _ => v = .bool nl
  | 11 => fun _ v _ _ => v = .bool nl
  | _ => fun _ _ _ _ => True
def nry_C : Nat → List Nat := fun rix => match rix with
  | _ => []
theorem nry_nw2 : nwB nrn_ops.toArray 2 = true := by kernel_rfl
theorem nry_nw3 : nwB nrn_ops.toArray 3 = true := by kernel_rfl
set_option maxRecDepth 100000 in
set_option maxHeartbeats 8000000 in
theorem nry_obs (w0 : World) (g h : Nat) (p q : Pl) (t u : Tm) (la lb nl : Bool) (hx2 : w0.heap[g]? = some (tmO p t)) (hx3 : w0.heap[h]? = some (tmO q u)) (hkk : t.kind = u.kind) (hla : leafR t = la) (hlb : leafR u = lb) (hnl : (la != lb) = nl) (hl2 : t.kids.length ≤ 9223372036854775807) (hl3 : u.kids.length ≤ 9223372036854775807) (Q : Exit → Act → World → Prop) (a0 : Act) (hi2 : a0.tmps.getD 2 undef = .pointer (some ⟨g, 0, none⟩)) (hi3 : a0.tmps.getD 3 undef = .pointer (some ⟨h, 0, none⟩)) :
    ObsE Try.prog nrn_ops.toArray Q (est2 0 0 (fun _ => False) (fun _ => False)) nry_C (nry_F w0 g h p q t u la lb nl) a0 w0 nrn_ops.toArray.toList 0 := by
  have nw2 := nry_nw2
  have nw3 := nry_nw3
  refine ⟨?_, ?_, ?_, ?_, ?_, ?_, ?_, ?_, ?_, ?_, ?_, ?_, trivial⟩
  · refine ⟨⟨fun τ => stableE_det _, leans_not⟩, ?_⟩
    intro a w O hk
    have e2 : a.eval (.tmp 2) = .pointer (some ⟨g, 0, none⟩) := (hk.init 2 (initialB_of_nw nw2)).trans hi2
    exact obE_run (wanted_none rfl) (by unfold execOp; simp only []; rw [e2]; go_simp) rfl
  · refine ⟨⟨fun τ => stableE_det _, leans_not⟩, ?_⟩
    intro a w O hk
    have e7 : a.eval (.tmp 7) = .pointer (some ⟨g, 0, none⟩) := hk.fact 0 _ 7 rfl rfl rfl rfl
    have x2 := hk.world.still hx2 (fun ⟨_, h⟩ => h.elim And.right And.right)
    obtain ⟨p0, p1, p2, p3, p4, p5, p6, p7⟩ := row8 x2
    exact obE_run (wanted_none rfl) (by unfold execOp; simp only []; rw [e7]; go_simp) rfl
  · refine ⟨⟨fun τ => stableE_det _, leans_not⟩, ?_⟩
    intro a w O hk
    have e3 : a.eval (.tmp 3) = .pointer (some ⟨h, 0, none⟩) := (hk.init 3 (initialB_of_nw nw3)).trans hi3
    exact obE_run (wanted_none rfl) (by unfold execOp; simp only []; rw [e3]; go_simp) rfl
  · refine ⟨⟨fun τ => stableE_det _, leans_not⟩, ?_⟩
    intro a w O hk
    have e9 : a.eval (.tmp 9) = .pointer (some ⟨h, 0, none⟩) := hk.fact 2 _ 9 rfl rfl rfl rfl
    have x3 := hk.world.still hx3 (fun ⟨_, h⟩ => h.elim And.right And.right)
    obtain ⟨p0, p1, p2, p3, p4, p5, p6, p7⟩ := row8 x3
    exact obE_run (wanted_none rfl) (by unfold execOp; simp only []; rw [e9]; go_simp) rfl
  · refine ⟨⟨fun τ => stableE_det _, leans_not⟩, ?_⟩
    intro a w O hk
    have e8 : a.eval (.tmp 8) = .int .i64 t.kind := hk.fact 1 _ 8 rfl rfl rfl rfl
    have e10 : a.eval (.tmp 10) = .int .i64 u.kind := hk.fact 3 _ 10 rfl rfl rfl rfl
    exact toE (ob_neqInt false rfl e8 e10 (by simp [hkk]) (wanted_none rfl) rfl)
  · refine ⟨⟨fun τ => stableE_det _, leans_not⟩, ?_⟩
    intro a w O hk
    have e11 : a.eval (.tmp 11) = .bool false := hk.fact 4 _ 11 rfl rfl rfl rfl
    exact toE (ob_move rfl e11 (wanted_none rfl) rfl)
  · refine ⟨⟨fun τ => stableE_det _, leans_not⟩, ?_⟩
    intro a w O hk
    have e2 : a.eval (.tmp 2) = .pointer (some ⟨g, 0, none⟩) := (hk.init 2 (initialB_of_nw nw2)).trans hi2
    have e12 : a.eval (.tmp 12) = .bool false := hk.fact 5 _ 12 rfl rfl rfl rfl
    have x2 := hk.world.still hx2 (fun ⟨_, h⟩ => h.elim And.right And.right)
    exact obE_loadRow rfl e2 x2 Try.underlying28 rfl (by kernel_rfl) (wanted_of rfl rfl rfl e12) rfl
  · refine ⟨⟨fun τ => stableE_det _, leans_not⟩, ?_⟩
    intro a w O hk
    have e13 : a.eval (.tmp 13) = tmV p t := hk.fact 6 _ 13 rfl rfl rfl rfl
    have e12 : a.eval (.tmp 12) = .bool false := hk.fact 5 _ 12 rfl rfl rfl rfl
    exact obE_callV #[tmV p t] rfl rfl rfl rfl (by simp only [List.map_cons, List.map_nil]; rw [e13]) (wanted_of rfl rfl rfl e12) ((refleaf_calls t p w hl2).mono fun e w' h => ⟨by rw [h.1, hla], h.2⟩)
  · refine ⟨⟨fun τ => stableE_det _, leans_not⟩, ?_⟩
    intro a w O hk
    have e3 : a.eval (.tmp 3) = .pointer (some ⟨h, 0, none⟩) := (hk.init 3 (initialB_of_nw nw3)).trans hi3
    have e12 : a.eval (.tmp 12) = .bool false := hk.fact 5 _ 12 rfl rfl rfl rfl
    have x3 := hk.world.still hx3 (fun ⟨_, h⟩ => h.elim And.right And.right)
    exact obE_loadRow rfl e3 x3 Try.underlying28 rfl (by kernel_rfl) (wanted_of rfl rfl rfl e12) rfl
  · refine ⟨⟨fun τ => stableE_det _, leans_not⟩, ?_⟩
    intro a w O hk
    have e15 : a.eval (.tmp 15) = tmV q u := hk.fact 8 _ 15 rfl rfl rfl rfl
    have e12 : a.eval (.tmp 12) = .bool false := hk.fact 5 _ 12 rfl rfl rfl rfl
    exact obE_callV #[tmV q u] rfl rfl rfl rfl (by simp only [List.map_cons, List.map_nil]; rw [e15]) (wanted_of rfl rfl rfl e12) ((refleaf_calls u q w hl3).mono fun e w' h => ⟨by rw [h.1, hlb], h.2⟩)
  · refine ⟨⟨fun τ => stableE_det _, leans_not⟩, ?_⟩
    intro a w O hk
    have e14 : a.eval (.tmp 14) = .bool la := hk.fact 7 _ 14 rfl rfl rfl rfl
    have e16 : a.eval (.tmp 16) = .bool lb := hk.fact 9 _ 16 rfl rfl rfl rfl
    have e12 : a.eval (.tmp 12) = .bool false := hk.fact 5 _ 12 rfl rfl rfl rfl
    exact toE (ob_neB nl rfl e14 e16 Try.underlying4 hnl (wanted_of rfl rfl rfl e12) rfl)
  · refine ⟨⟨fun τ => stableE_det _, leans_not⟩, ?_⟩
    intro a w O hk
    have e12 : a.eval (.tmp 12) = .bool false := hk.fact 5 _ 12 rfl rfl rfl rfl
    have e17 : a.eval (.tmp 17) = .bool nl := hk.fact 10 _ 17 rfl rfl rfl rfl
    exact toE (ob_pick rfl e12 e17 (wanted_none rfl) rfl)
set_option maxRecDepth 100000 in
set_option maxHeartbeats 8000000 in
theorem nry_region {Q : Exit → Act → World → Prop} {id : Nat} (w0 : World) (g h : Nat) (p q : Pl) (t u : Tm) (la lb nl : Bool) {s0 s1 s4 s5 s6 s7 s8 s9 s10 s11 s12 s13 s14 s15 s16 s17 s18 s19 s20 s21 s22 s23 s24 s25 s26 s27 s28 s29 s30 s31 s32 s33 s34 s35 s36 s37 s38 s39 s40 s41 s42 s43 s44 s45 s46 s47 s48 s49 s50 s51 s52 s53 s54 s55 s56 s57 s58 s59 s60 s61 s62 s63 s64 s65 s66 s67 s68 s69 s70 s71 s72 s73 s74 s75 s76 s77 s78 s79 s80 s81 s82 s83 s84 s85 s86 s87 s88 s89 s90 : Value} (hx2 : w0.heap[g]? = some (tmO p t)) (hx3 : w0.heap[h]? = some (tmO q u)) (hkk : t.kind = u.kind) (hla : leafR t = la) (hlb : leafR u = lb) (hnl : (la != lb) = nl) (hl2 : t.kids.length ≤ 9223372036854775807) (hl3 : u.kids.length ≤ 9223372036854775807)
    (hend : ∀ (w' : World), Chg (fun k => False ∨ False) w0 w' → Q .normal { tmps := (s0 :: s1 :: (.pointer (some ⟨g, 0, none⟩)) :: (.pointer (some ⟨h, 0, none⟩)) :: s4 :: s5 :: s6 :: (.pointer (some ⟨g, 0, none⟩)) :: (.int .i64 t.kind) :: (.pointer (some ⟨h, 0, none⟩)) :: (.int .i64 u.kind) :: (.bool false) :: (.bool false) :: (tmV p t) :: (.bool la) :: (tmV q u) :: (.bool lb) :: (.bool nl) :: (.bool nl) :: s19 :: s20 :: s21 :: s22 :: s23 :: s24 :: s25 :: s26 :: s27 :: s28 :: s29 :: s30 :: s31 :: s32 :: s33 :: s34 :: s35 :: s36 :: s37 :: s38 :: s39 :: s40 :: s41 :: s42 :: s43 :: s44 :: s45 :: s46 :: s47 :: s48 :: s49 :: s50 :: s51 :: s52 :: s53 :: s54 :: s55 :: s56 :: s57 :: s58 :: s59 :: s60 :: s61 :: s62 :: s63 :: s64 :: s65 :: s66 :: s67 :: s68 :: s69 :: s70 :: s71 :: s72 :: s73 :: s74 :: s75 :: s76 :: s77 :: s78 :: s79 :: s80 :: s81 :: s82 :: s83 :: s84 :: s85 :: s86 :: s87 :: s88 :: s89 :: s90 :: [] : List Value).toArray, defers := [] } w') :
    (Code.region id nrn_ops.toArray true).wp Try.prog Q { tmps := (s0 :: s1 :: (.pointer (some ⟨g, 0, none⟩)) :: (.pointer (some ⟨h, 0, none⟩)) :: s4 :: s5 :: s6 :: s7 :: s8 :: s9 :: s10 :: s11 :: s12 :: s13 :: s14 :: s15 :: s16 :: s17 :: s18 :: s19 :: s20 :: s21 :: s22 :: s23 :: s24 :: s25 :: s26 :: s27 :: s28 :: s29 :: s30 :: s31 :: s32 :: s33 :: s34 :: s35 :: s36 :: s37 :: s38 :: s39 :: s40 :: s41 :: s42 :: s43 :: s44 :: s45 :: s46 :: s47 :: s48 :: s49 :: s50 :: s51 :: s52 :: s53 :: s54 :: s55 :: s56 :: s57 :: s58 :: s59 :: s60 :: s61 :: s62 :: s63 :: s64 :: s65 :: s66 :: s67 :: s68 :: s69 :: s70 :: s71 :: s72 :: s73 :: s74 :: s75 :: s76 :: s77 :: s78 :: s79 :: s80 :: s81 :: s82 :: s83 :: s84 :: s85 :: s86 :: s87 :: s88 :: s89 :: s90 :: [] : List Value).toArray, defers := [] } w0 := by
  refine wp_region_est (by kernel_rfl) (est2 0 0 (fun _ => False) (fun _ => False)) nry_C (nry_F w0 g h p q t u la lb nl) (est2_dis (fun _ h _ => h)) (est2_range (fun _ h => h.elim) (fun _ h => h.elim)) (by rfl) (by kernel_rfl) (nry_obs w0.drew g h p q t u la lb nl hx2 hx3 hkk hla hlb hnl hl2 hl3 _ _ rfl rfl) ?_
  intro a w' O hd hs hb hf hf2 ha hsame
  have hl := slots_eq (ops := nrn_ops.toArray) [(7, .pointer (some ⟨g, 0, none⟩)), (8, .int .i64 t.kind), (9, .pointer (some ⟨h, 0, none⟩)), (10, .int .i64 u.kind), (11, .bool false), (12, .bool false), (13, tmV p t), (14, .bool la), (15, tmV q u), (16, .bool lb), (17, .bool nl), (18, .bool nl)] (show a.tmps.size = 91 from hs) (fun i h => hsame i h) ⟨(hf 0 _ 7 rfl rfl (by decide)).1, (hf 1 _ 8 rfl rfl (by decide)).1, (hf 2 _ 9 rfl rfl (by decide)).1, (hf 3 _ 10 rfl rfl (by decide)).1, (hf 4 _ 11 rfl rfl (by decide)).1, (hf 5 _ 12 rfl rfl (by decide)).1, (hf 6 _ 13 rfl rfl (by decide)).1, (hf 7 _ 14 rfl rfl (by decide)).1, (hf 8 _ 15 rfl rfl (by decide)).1, (hf 9 _ 16 rfl rfl (by decide)).1, (hf 10 _ 17 rfl rfl (by decide)).1, (hf 11 _ 18 rfl rfl (by decide)).1, trivial⟩ (by kernel_rfl)
  obtain ⟨tmps, defers⟩ := a
  obtain rfl : defers = [] := hd
  have hl' : tmps = _ := hl
  rw [hl']
  have hb' := est2_chg hb
  refine Eq.mp ?_ (hend w' ⟨hb'.os, hb'.tape, hb'.output, hb'.size, hb'.block⟩)
  kernel_rfl

def nrk_ops : List Oper := [
  { dst := some 78, op := Go.Op.fieldAddr 28 (Go.Operand.tmp 2) 5, type := 0, pos := "law.go:85", after := #[], guard := none },
  { dst := some 79, op := Go.Op.load 26 (Go.Operand.tmp 78), type := 26, pos := "law.go:85", after := #[{ on := 0, ground := Go.Ground.data }], guard := none },
  { dst := some 80, op := Go.Op.move (Go.Operand.tmp 6), type := 3, pos := "law.go:85", after := #[], guard := none },
  { dst := some 81, op := Go.Op.indexAddr 26 (Go.Operand.tmp 79) (Go.Operand.tmp 80), type := 0, pos := "law.go:85", after := #[{ on := 1, ground := Go.Ground.data }, { on := 2, ground := Go.Ground.data }], guard := none },
  { dst := some 82, op := Go.Op.load 28 (Go.Operand.tmp 81), type := 28, pos := "law.go:85", after := #[{ on := 3, ground := Go.Ground.data }], guard := none },
  { dst := some 83, op := Go.Op.fieldAddr 28 (Go.Operand.tmp 3) 5, type := 0, pos := "law.go:85", after := #[], guard := none },
  { dst := some 84, op := Go.Op.load 26 (Go.Operand.tmp 83), type := 26, pos := "law.go:85", after := #[{ on := 5, ground := Go.Ground.data }], guard := none },
  { dst := some 85, op := Go.Op.move (Go.Operand.tmp 6), type := 3, pos := "law.go:85", after := #[], guard := none },
  { dst := some 86, op := Go.Op.indexAddr 26 (Go.Operand.tmp 84) (Go.Operand.tmp 85), type := 0, pos := "law.go:85", after := #[{ on := 6, ground := Go.Ground.data }, { on := 7, ground := Go.Ground.data }], guard := none },
  { dst := some 87, op := Go.Op.load 28 (Go.Operand.tmp 86), type := 28, pos := "law.go:85", after := #[{ on := 8, ground := Go.Ground.data }], guard := none },
  { dst := some 88, op := Go.Op.call { callee := Go.Callee.value (Go.Operand.func 68), args := #[Go.Operand.tmp 82, Go.Operand.tmp 87], argTypes := #[28, 28] }, type := 4, pos := "law.go:85", after := #[{ on := 4, ground := Go.Ground.data }, { on := 9, ground := Go.Ground.data }], guard := none },
  { dst := some 89, op := Go.Op.unOp Go.UnOp.not 4 (Go.Operand.tmp 88), type := 4, pos := "law.go:85", after := #[{ on := 10, ground := Go.Ground.data }], guard := none }]
def nrk_F (w0 : World) (g h i : Nat) (p q : Pl) (t u : Tm) (ga oa gd od m1 m2 : Nat) (qx qy : Pl) (x y : Tm) (r : Bool) : Nat → (Nat → Value) → Value → World → (Nat → Prop) → Prop := fun rix => match rix with
  | 0 => fun _ v _ _ => v = .pointer (some ⟨g, 7, none⟩)
  | 1 => fun _ v _ _ => v = .slice (some ⟨ga, oa, none⟩) m1 p.e
  | 2 => fun _ v _ _ => v = .int .i64 i
  | 3 => fun _ v _ _ => v = .pointer (some ⟨ga, oa + i * 8, none⟩)
  | 4 => fun _ v _ _ => v = tmV qx x
  | 5 => fun _ v _ _ => v = .pointer (some ⟨h, 7, none⟩)
  | 6 => fun _ v _ _ => v = .slice (some ⟨gd, od, none⟩) m2 q.e
  | 7 => fun _ v _ _ => v = .int .i64 i
  | 8 => fun _ v _ _ => v = .pointer (some ⟨gd, od + i * 8, none⟩)
  | 9 => fun _ v _ _ => v = tmV qy y
  | 10 => fun _ v _ _ => v = .bool r
  | 11 => fun _ v _ _ => v = .bool (!r)
  | _ => fun _ _ _ _ => True
def nrk_C : Nat → List Nat := fun rix => match rix with
  | _ => []
theorem nrk_nw2 : nwB nrk_ops.toArray 2 = true := by kernel_rfl
theorem nrk_nw3 : nwB nrk_ops.toArray 3 = true := by kernel_rfl
theorem nrk_nw6 : nwB nrk_ops.toArray 6 = true := by kernel_rfl
set_option maxRecDepth 100000 in
set_option maxHeartbeats 8000000 in
theorem nrk_obs (w0 : World) (g h i : Nat) (p q : Pl) (t u : Tm) (ga oa gd od m1 m2 : Nat) (qx qy : Pl) (x y : Tm) (r : Bool) (hx2 : w0.heap[g]? = some (tmO p t)) (hx3 : w0.heap[h]? = some (tmO q u)) (hpK : p.K = some ⟨ga, oa, none⟩) (hqK : q.K = some ⟨gd, od, none⟩) (hm1 : t.kids.length = m1) (hm2 : u.kids.length = m2) (hga : ga < w0.heap.size) (hgd : gd < w0.heap.size) (him1 : i < m1) (him2 : i < m2) (hpe : m1 ≤ 9223372036854775807) (hqe : m2 ≤ 9223372036854775807) (him9 : i ≤ 3) (ca0 : w0.cell? ⟨ga, oa + i * 8, none⟩ = some (.int .i64 x.kind)) (ca1 : w0.cell? ⟨ga, oa + i * 8 + 1, none⟩ = some (.int .i64 x.num)) (ca2 : w0.cell? ⟨ga, oa + i * 8 + 2, none⟩ = some (.string x.name)) (ca3 : w0.cell? ⟨ga, oa + i * 8 + 3, none⟩ = some (.int .i64 x.lv.kind)) (ca4 : w0.cell? ⟨ga, oa + i * 8 + 4, none⟩ = some (.int .i64 x.lv.num)) (ca5 : w0.cell? ⟨ga, oa + i * 8 + 5, none⟩ = some (.slice qx.A x.lv.kids.length qx.c)) (ca6 : w0.cell? ⟨ga, oa + i * 8 + 6, none⟩ = some (.slice qx.B x.ls.length qx.d)) (ca7 : w0.cell? ⟨ga, oa + i * 8 + 7, none⟩ = some (.slice qx.K x.kids.length qx.e)) (cb0 : w0.cell? ⟨gd, od + i * 8, none⟩ = some (.int .i64 y.kind)) (cb1 : w0.cell? ⟨gd, od + i * 8 + 1, none⟩ = some (.int .i64 y.num)) (cb2 : w0.cell? ⟨gd, od + i * 8 + 2, none⟩ = some (.string y.name)) (cb3 : w0.cell? ⟨gd, od + i * 8 + 3, none⟩ = some (.int .i64 y.lv.kind)) (cb4 : w0.cell? ⟨gd, od + i * 8 + 4, none⟩ = some (.int .i64 y.lv.num)) (cb5 : w0.cell? ⟨gd, od + i * 8 + 5, none⟩ = some (.slice qy.A y.lv.kids.length qy.c)) (cb6 : w0.cell? ⟨gd, od + i * 8 + 6, none⟩ = some (.slice qy.B y.ls.length qy.d)) (cb7 : w0.cell? ⟨gd, od + i * 8 + 7, none⟩ = some (.slice qy.K y.kids.length qy.e)) (hIH : ∀ w, Below w0.heap.size w0 w → Calls Try.prog 68 #[tmV qx x, tmV qy y] w fun e w' => e = .returned (.bool r) ∧ Below w.heap.size w w') (Q : Exit → Act → World → Prop) (a0 : Act) (hi2 : a0.tmps.getD 2 undef = .pointer (some ⟨g, 0, none⟩)) (hi3 : a0.tmps.getD 3 undef = .pointer (some ⟨h, 0, none⟩)) (hi6 : a0.tmps.getD 6 undef = .int .i64 i) :
    ObsE Try.prog nrk_ops.toArray Q (est2 0 0 (fun _ => False) (fun _ => False)) nrk_C (nrk_F w0 g h i p q t u ga oa gd od m1 m2 qx qy x y r) a0 w0 nrk_ops.toArray.toList 0 := by
  have nw2 := nrk_nw2
  have nw3 := nrk_nw3
  have nw6 := nrk_nw6
  refine ⟨?_, ?_, ?_, ?_, ?_, ?_, ?_, ?_, ?_, ?_, ?_, ?_, trivial⟩
  · refine ⟨⟨fun τ => stableE_det _, leans_not⟩, ?_⟩
    intro a w O hk
    have e2 : a.eval (.tmp 2) = .pointer (some ⟨g, 0, none⟩) := (hk.init 2 (initialB_of_nw nw2)).trans hi2
    have x2 := hk.world.still hx2 (fun ⟨_, h⟩ => h.elim And.right And.right)
    have x3 := hk.world.still hx3 (fun ⟨_, h⟩ => h.elim And.right And.right)
    have hcc : ∀ j, w.cell? ⟨ga, j, none⟩ = w0.cell? ⟨ga, j, none⟩ := fun j => cell_same ((hk.world.below (fun k ⟨_, h⟩ => h.elim (fun h => h.2.elim) fun h => h.2.elim) (Nat.le_refl _)).block _ hga)
    have hcd : ∀ j, w.cell? ⟨gd, j, none⟩ = w0.cell? ⟨gd, j, none⟩ := fun j => cell_same ((hk.world.below (fun k ⟨_, h⟩ => h.elim (fun h => h.2.elim) fun h => h.2.elim) (Nat.le_refl _)).block _ hgd)
    exact obE_run (wanted_none rfl) (by unfold execOp; simp only []; rw [e2]; go_simp) rfl
  · refine ⟨⟨fun τ => stableE_det _, leans_not⟩, ?_⟩
    intro a w O hk
    have e78 : a.eval (.tmp 78) = .pointer (some ⟨g, 7, none⟩) := hk.fact 0 _ 78 rfl rfl rfl rfl
    have x2 := hk.world.still hx2 (fun ⟨_, h⟩ => h.elim And.right And.right)
    have x3 := hk.world.still hx3 (fun ⟨_, h⟩ => h.elim And.right And.right)
    have hcc : ∀ j, w.cell? ⟨ga, j, none⟩ = w0.cell? ⟨ga, j, none⟩ := fun j => cell_same ((hk.world.below (fun k ⟨_, h⟩ => h.elim (fun h => h.2.elim) fun h => h.2.elim) (Nat.le_refl _)).block _ hga)
    have hcd : ∀ j, w.cell? ⟨gd, j, none⟩ = w0.cell? ⟨gd, j, none⟩ := fun j => cell_same ((hk.world.below (fun k ⟨_, h⟩ => h.elim (fun h => h.2.elim) fun h => h.2.elim) (Nat.le_refl _)).block _ hgd)
    obtain ⟨p0, p1, p2, p3, p4, p5, p6, p7⟩ := row8 x2
    rw [hpK, hm1] at p7
    exact obE_run (wanted_none rfl) (by unfold execOp; simp only []; rw [e78]; go_simp) rfl
  · refine ⟨⟨fun τ => stableE_det _, leans_not⟩, ?_⟩
    intro a w O hk
    have e6 : a.eval (.tmp 6) = .int .i64 i := (hk.init 6 (initialB_of_nw nw6)).trans hi6
    exact toE (ob_move rfl e6 (wanted_none rfl) rfl)
  · refine ⟨⟨fun τ => stableE_det _, leans_not⟩, ?_⟩
    intro a w O hk
    have e79 : a.eval (.tmp 79) = .slice (some ⟨ga, oa, none⟩) m1 p.e := hk.fact 1 _ 79 rfl rfl rfl rfl
    have e80 : a.eval (.tmp 80) = .int .i64 i := hk.fact 2 _ 80 rfl rfl rfl rfl
    have x2 := hk.world.still hx2 (fun ⟨_, h⟩ => h.elim And.right And.right)
    have x3 := hk.world.still hx3 (fun ⟨_, h⟩ => h.elim And.right And.right)
    have hcc : ∀ j, w.cell? ⟨ga, j, none⟩ = w0.cell? ⟨ga, j, none⟩ := fun j => cell_same ((hk.world.below (fun k ⟨_, h⟩ => h.elim (fun h => h.2.elim) fun h => h.2.elim) (Nat.le_refl _)).block _ hga)
    have hcd : ∀ j, w.cell? ⟨gd, j, none⟩ = w0.cell? ⟨gd, j, none⟩ := fun j => cell_same ((hk.world.below (fun k ⟨_, h⟩ => h.elim (fun h => h.2.elim) fun h => h.2.elim) (Nat.le_refl _)).block _ hgd)
    exact obE_run (wanted_none rfl) (by unfold execOp; simp only []; rw [e79, e80]; go_simp) rfl
  · refine ⟨⟨fun τ => stableE_det _, leans_not⟩, ?_⟩
    intro a w O hk
    have e81 : a.eval (.tmp 81) = .pointer (some ⟨ga, oa + i * 8, none⟩) := hk.fact 3 _ 81 rfl rfl rfl rfl
    have x2 := hk.world.still hx2 (fun ⟨_, h⟩ => h.elim And.right And.right)
    have x3 := hk.world.still hx3 (fun ⟨_, h⟩ => h.elim And.right And.right)
    have hcc : ∀ j, w.cell? ⟨ga, j, none⟩ = w0.cell? ⟨ga, j, none⟩ := fun j => cell_same ((hk.world.below (fun k ⟨_, h⟩ => h.elim (fun h => h.2.elim) fun h => h.2.elim) (Nat.le_refl _)).block _ hga)
    have hcd : ∀ j, w.cell? ⟨gd, j, none⟩ = w0.cell? ⟨gd, j, none⟩ := fun j => cell_same ((hk.world.below (fun k ⟨_, h⟩ => h.elim (fun h => h.2.elim) fun h => h.2.elim) (Nat.le_refl _)).block _ hgd)
    have r0 := (hcc _).trans ca0
    have r1 := (hcc _).trans ca1
    have r2 := (hcc _).trans ca2
    have r3 := (hcc _).trans ca3
    have r4 := (hcc _).trans ca4
    have r5 := (hcc _).trans ca5
    have r6 := (hcc _).trans ca6
    have r7 := (hcc _).trans ca7
    exact obE_run (wanted_none rfl) (by unfold execOp; simp only []; rw [e81]; go_simp; rfl) rfl
  · refine ⟨⟨fun τ => stableE_det _, leans_not⟩, ?_⟩
    intro a w O hk
    have e3 : a.eval (.tmp 3) = .pointer (some ⟨h, 0, none⟩) := (hk.init 3 (initialB_of_nw nw3)).trans hi3
    have x2 := hk.world.still hx2 (fun ⟨_, h⟩ => h.elim And.right And.right)
    have x3 := hk.world.still hx3 (fun ⟨_, h⟩ => h.elim And.right And.right)
    have hcc : ∀ j, w.cell? ⟨ga, j, none⟩ = w0.cell? ⟨ga, j, none⟩ := fun j => cell_same ((hk.world.below (fun k ⟨_, h⟩ => h.elim (fun h => h.2.elim) fun h => h.2.elim) (Nat.le_refl _)).block _ hga)
    have hcd : ∀ j, w.cell? ⟨gd, j, none⟩ = w0.cell? ⟨gd, j, none⟩ := fun j => cell_same ((hk.world.below (fun k ⟨_, h⟩ => h.elim (fun h => h.2.elim) fun h => h.2.elim) (Nat.le_refl _)).block _ hgd)
    exact obE_run (wanted_none rfl) (by unfold execOp; simp only []; rw [e3]; go_simp) rfl
  · refine ⟨⟨fun τ => stableE_det _, leans_not⟩, ?_⟩
    intro a w O hk
    have e83 : a.eval (.tmp 83) = .pointer (some ⟨h, 7, none⟩) := hk.fact 5 _ 83 rfl rfl rfl rfl
    have x2 := hk.world.still hx2 (fun ⟨_, h⟩ => h.elim And.right And.right)
    have x3 := hk.world.still hx3 (fun ⟨_, h⟩ => h.elim And.right And.right)
    have hcc : ∀ j, w.cell? ⟨ga, j, none⟩ = w0.cell? ⟨ga, j, none⟩ := fun j => cell_same ((hk.world.below (fun k ⟨_, h⟩ => h.elim (fun h => h.2.elim) fun h => h.2.elim) (Nat.le_refl _)).block _ hga)
    have hcd : ∀ j, w.cell? ⟨gd, j, none⟩ = w0.cell? ⟨gd, j, none⟩ := fun j => cell_same ((hk.world.below (fun k ⟨_, h⟩ => h.elim (fun h => h.2.elim) fun h => h.2.elim) (Nat.le_refl _)).block _ hgd)
    obtain ⟨p0, p1, p2, p3, p4, p5, p6, p7⟩ := row8 x3
    rw [hqK, hm2] at p7
    exact obE_run (wanted_none rfl) (by unfold execOp; simp only []; rw [e83]; go_simp) rfl
  · refine ⟨⟨fun τ => stableE_det _, leans_not⟩, ?_⟩
    intro a w O hk
    have e6 : a.eval (.tmp 6) = .int .i64 i := (hk.init 6 (initialB_of_nw nw6)).trans hi6
    exact toE (ob_move rfl e6 (wanted_none rfl) rfl)
  · refine ⟨⟨fun τ => stableE_det _, leans_not⟩, ?_⟩
    intro a w O hk
    have e84 : a.eval (.tmp 84) = .slice (some ⟨gd, od, none⟩) m2 q.e := hk.fact 6 _ 84 rfl rfl rfl rfl
    have e85 : a.eval (.tmp 85) = .int .i64 i := hk.fact 7 _ 85 rfl rfl rfl rfl
    have x2 := hk.world.still hx2 (fun ⟨_, h⟩ => h.elim And.right And.right)
    have x3 := hk.world.still hx3 (fun ⟨_, h⟩ => h.elim And.right And.right)
    have hcc : ∀ j, w.cell? ⟨ga, j, none⟩ = w0.cell? ⟨ga, j, none⟩ := fun j => cell_same ((hk.world.below (fun k ⟨_, h⟩ => h.elim (fun h => h.2.elim) fun h => h.2.elim) (Nat.le_refl _)).block _ hga)
    have hcd : ∀ j, w.cell? ⟨gd, j, none⟩ = w0.cell? ⟨gd, j, none⟩ := fun j => cell_same ((hk.world.below (fun k ⟨_, h⟩ => h.elim (fun h => h.2.elim) fun h => h.2.elim) (Nat.le_refl _)).block _ hgd)
    exact obE_run (wanted_none rfl) (by unfold execOp; simp only []; rw [e84, e85]; go_simp) rfl
  · refine ⟨⟨fun τ => stableE_det _, leans_not⟩, ?_⟩
    intro a w O hk
    have e86 : a.eval (.tmp 86) = .pointer (some ⟨gd, od + i * 8, none⟩) := hk.fact 8 _ 86 rfl rfl rfl rfl
    have x2 := hk.world.still hx2 (fun ⟨_, h⟩ => h.elim And.right And.right)
    have x3 := hk.world.still hx3 (fun ⟨_, h⟩ => h.elim And.right And.right)
    have hcc : ∀ j, w.cell? ⟨ga, j, none⟩ = w0.cell? ⟨ga, j, none⟩ := fun j => cell_same ((hk.world.below (fun k ⟨_, h⟩ => h.elim (fun h => h.2.elim) fun h => h.2.elim) (Nat.le_refl _)).block _ hga)
    have hcd : ∀ j, w.cell? ⟨gd, j, none⟩ = w0.cell? ⟨gd, j, none⟩ := fun j => cell_same ((hk.world.below (fun k ⟨_, h⟩ => h.elim (fun h => h.2.elim) fun h => h.2.elim) (Nat.le_refl _)).block _ hgd)
    have r0 := (hcd _).trans cb0
    have r1 := (hcd _).trans cb1
    have r2 := (hcd _).trans cb2
    have r3 := (hcd _).trans cb3
    have r4 := (hcd _).trans cb4
    have r5 := (hcd _).trans cb5
    have r6 := (hcd _).trans cb6
    have r7 := (hcd _).trans cb7
    exact obE_run (wanted_none rfl) (by unfold execOp; simp only []; rw [e86]; go_simp; rfl) rfl
  · refine ⟨⟨fun τ => stableE_det _, leans_not⟩, ?_⟩
    intro a w O hk
    have e82 : a.eval (.tmp 82) = tmV qx x := hk.fact 4 _ 82 rfl rfl rfl rfl
    have e87 : a.eval (.tmp 87) = tmV qy y := hk.fact 9 _ 87 rfl rfl rfl rfl
    have x2 := hk.world.still hx2 (fun ⟨_, h⟩ => h.elim And.right And.right)
    have x3 := hk.world.still hx3 (fun ⟨_, h⟩ => h.elim And.right And.right)
    have hcc : ∀ j, w.cell? ⟨ga, j, none⟩ = w0.cell? ⟨ga, j, none⟩ := fun j => cell_same ((hk.world.below (fun k ⟨_, h⟩ => h.elim (fun h => h.2.elim) fun h => h.2.elim) (Nat.le_refl _)).block _ hga)
    have hcd : ∀ j, w.cell? ⟨gd, j, none⟩ = w0.cell? ⟨gd, j, none⟩ := fun j => cell_same ((hk.world.below (fun k ⟨_, h⟩ => h.elim (fun h => h.2.elim) fun h => h.2.elim) (Nat.le_refl _)).block _ hgd)
    exact obE_callV #[tmV qx x, tmV qy y] rfl rfl rfl rfl (by simp only [List.map_cons, List.map_nil]; rw [e82, e87]) (wanted_none rfl) (hIH w (hk.world.below (fun k ⟨_, h⟩ => h.elim (fun h => h.2.elim) fun h => h.2.elim) (Nat.le_refl _)))
  · refine ⟨⟨fun τ => stableE_det _, leans_not⟩, ?_⟩
    intro a w O hk
    have e88 : a.eval (.tmp 88) = .bool r := hk.fact 10 _ 88 rfl rfl rfl rfl
    have x2 := hk.world.still hx2 (fun ⟨_, h⟩ => h.elim And.right And.right)
    have x3 := hk.world.still hx3 (fun ⟨_, h⟩ => h.elim And.right And.right)
    have hcc : ∀ j, w.cell? ⟨ga, j, none⟩ = w0.cell? ⟨ga, j, none⟩ := fun j => cell_same ((hk.world.below (fun k ⟨_, h⟩ => h.elim (fun h => h.2.elim) fun h => h.2.elim) (Nat.le_refl _)).block _ hga)
    have hcd : ∀ j, w.cell? ⟨gd, j, none⟩ = w0.cell? ⟨gd, j, none⟩ := fun j => cell_same ((hk.world.below (fun k ⟨_, h⟩ => h.elim (fun h => h.2.elim) fun h => h.2.elim) (Nat.le_refl _)).block _ hgd)
    exact obE_run (wanted_none rfl) (by unfold execOp; simp only []; rw [e88]; go_simp) rfl
set_option maxRecDepth 100000 in
set_option maxHeartbeats 8000000 in
theorem nrk_region {Q : Exit → Act → World → Prop} {id : Nat} (w0 : World) (g h i : Nat) (p q : Pl) (t u : Tm) (ga oa gd od m1 m2 : Nat) (qx qy : Pl) (x y : Tm) (r : Bool) {s0 s1 s4 s5 s7 s8 s9 s10 s11 s12 s13 s14 s15 s16 s17 s18 s19 s20 s21 s22 s23 s24 s25 s26 s27 s28 s29 s30 s31 s32 s33 s34 s35 s36 s37 s38 s39 s40 s41 s42 s43 s44 s45 s46 s47 s48 s49 s50 s51 s52 s53 s54 s55 s56 s57 s58 s59 s60 s61 s62 s63 s64 s65 s66 s67 s68 s69 s70 s71 s72 s73 s74 s75 s76 s77 s78 s79 s80 s81 s82 s83 s84 s85 s86 s87 s88 s89 s90 : Value} (hx2 : w0.heap[g]? = some (tmO p t)) (hx3 : w0.heap[h]? = some (tmO q u)) (hpK : p.K = some ⟨ga, oa, none⟩) (hqK : q.K = some ⟨gd, od, none⟩) (hm1 : t.kids.length = m1) (hm2 : u.kids.length = m2) (hga : ga < w0.heap.size) (hgd : gd < w0.heap.size) (him1 : i < m1) (him2 : i < m2) (hpe : m1 ≤ 9223372036854775807) (hqe : m2 ≤ 9223372036854775807) (him9 : i ≤ 3) (ca0 : w0.cell? ⟨ga, oa + i * 8, none⟩ = some (.int .i64 x.kind)) (ca1 : w0.cell? ⟨ga, oa + i * 8 + 1, none⟩ = some (.int .i64 x.num)) (ca2 : w0.cell? ⟨ga, oa + i * 8 + 2, none⟩ = some (.string x.name)) (ca3 : w0.cell? ⟨ga, oa + i * 8 + 3, none⟩ = some (.int .i64 x.lv.kind)) (ca4 : w0.cell? ⟨ga, oa + i * 8 + 4, none⟩ = some (.int .i64 x.lv.num)) (ca5 : w0.cell? ⟨ga, oa + i * 8 + 5, none⟩ = some (.slice qx.A x.lv.kids.length qx.c)) (ca6 : w0.cell? ⟨ga, oa + i * 8 + 6, none⟩ = some (.slice qx.B x.ls.length qx.d)) (ca7 : w0.cell? ⟨ga, oa + i * 8 + 7, none⟩ = some (.slice qx.K x.kids.length qx.e)) (cb0 : w0.cell? ⟨gd, od + i * 8, none⟩ = some (.int .i64 y.kind)) (cb1 : w0.cell? ⟨gd, od + i * 8 + 1, none⟩ = some (.int .i64 y.num)) (cb2 : w0.cell? ⟨gd, od + i * 8 + 2, none⟩ = some (.string y.name)) (cb3 : w0.cell? ⟨gd, od + i * 8 + 3, none⟩ = some (.int .i64 y.lv.kind)) (cb4 : w0.cell? ⟨gd, od + i * 8 + 4, none⟩ = some (.int .i64 y.lv.num)) (cb5 : w0.cell? ⟨gd, od + i * 8 + 5, none⟩ = some (.slice qy.A y.lv.kids.length qy.c)) (cb6 : w0.cell? ⟨gd, od + i * 8 + 6, none⟩ = some (.slice qy.B y.ls.length qy.d)) (cb7 : w0.cell? ⟨gd, od + i * 8 + 7, none⟩ = some (.slice qy.K y.kids.length qy.e)) (hIH : ∀ w, Below w0.heap.size w0 w → Calls Try.prog 68 #[tmV qx x, tmV qy y] w fun e w' => e = .returned (.bool r) ∧ Below w.heap.size w w')
    (hend : ∀ (w' : World), Chg (fun k => False ∨ False) w0 w' → Q .normal { tmps := (s0 :: s1 :: (.pointer (some ⟨g, 0, none⟩)) :: (.pointer (some ⟨h, 0, none⟩)) :: s4 :: s5 :: (.int .i64 i) :: s7 :: s8 :: s9 :: s10 :: s11 :: s12 :: s13 :: s14 :: s15 :: s16 :: s17 :: s18 :: s19 :: s20 :: s21 :: s22 :: s23 :: s24 :: s25 :: s26 :: s27 :: s28 :: s29 :: s30 :: s31 :: s32 :: s33 :: s34 :: s35 :: s36 :: s37 :: s38 :: s39 :: s40 :: s41 :: s42 :: s43 :: s44 :: s45 :: s46 :: s47 :: s48 :: s49 :: s50 :: s51 :: s52 :: s53 :: s54 :: s55 :: s56 :: s57 :: s58 :: s59 :: s60 :: s61 :: s62 :: s63 :: s64 :: s65 :: s66 :: s67 :: s68 :: s69 :: s70 :: s71 :: s72 :: s73 :: s74 :: s75 :: s76 :: s77 :: (.pointer (some ⟨g, 7, none⟩)) :: (.slice (some ⟨ga, oa, none⟩) m1 p.e) :: (.int .i64 i) :: (.pointer (some ⟨ga, oa + i * 8, none⟩)) :: (tmV qx x) :: (.pointer (some ⟨h, 7, none⟩)) :: (.slice (some ⟨gd, od, none⟩) m2 q.e) :: (.int .i64 i) :: (.pointer (some ⟨gd, od + i * 8, none⟩)) :: (tmV qy y) :: (.bool r) :: (.bool (!r)) :: s90 :: [] : List Value).toArray, defers := [] } w') :
    (Code.region id nrk_ops.toArray true).wp Try.prog Q { tmps := (s0 :: s1 :: (.pointer (some ⟨g, 0, none⟩)) :: (.pointer (some ⟨h, 0, none⟩)) :: s4 :: s5 :: (.int .i64 i) :: s7 :: s8 :: s9 :: s10 :: s11 :: s12 :: s13 :: s14 :: s15 :: s16 :: s17 :: s18 :: s19 :: s20 :: s21 :: s22 :: s23 :: s24 :: s25 :: s26 :: s27 :: s28 :: s29 :: s30 :: s31 :: s32 :: s33 :: s34 :: s35 :: s36 :: s37 :: s38 :: s39 :: s40 :: s41 :: s42 :: s43 :: s44 :: s45 :: s46 :: s47 :: s48 :: s49 :: s50 :: s51 :: s52 :: s53 :: s54 :: s55 :: s56 :: s57 :: s58 :: s59 :: s60 :: s61 :: s62 :: s63 :: s64 :: s65 :: s66 :: s67 :: s68 :: s69 :: s70 :: s71 :: s72 :: s73 :: s74 :: s75 :: s76 :: s77 :: s78 :: s79 :: s80 :: s81 :: s82 :: s83 :: s84 :: s85 :: s86 :: s87 :: s88 :: s89 :: s90 :: [] : List Value).toArray, defers := [] } w0 := by
  refine wp_region_est (by kernel_rfl) (est2 0 0 (fun _ => False) (fun _ => False)) nrk_C (nrk_F w0 g h i p q t u ga oa gd od m1 m2 qx qy x y r) (est2_dis (fun _ h _ => h)) (est2_range (fun _ h => h.elim) (fun _ h => h.elim)) (by rfl) (by kernel_rfl) (nrk_obs w0.drew g h i p q t u ga oa gd od m1 m2 qx qy x y r hx2 hx3 hpK hqK hm1 hm2 hga hgd him1 him2 hpe hqe him9 ca0 ca1 ca2 ca3 ca4 ca5 ca6 ca7 cb0 cb1 cb2 cb3 cb4 cb5 cb6 cb7 (fun w h => hIH w (below_undrew h)) _ _ rfl rfl rfl) ?_
  intro a w' O hd hs hb hf hf2 ha hsame
  have hl := slots_eq (ops := nrk_ops.toArray) [(78, .pointer (some ⟨g, 7, none⟩)), (79, .slice (some ⟨ga, oa, none⟩) m1 p.e), (80, .int .i64 i), (81, .pointer (some ⟨ga, oa + i * 8, none⟩)), (82, tmV qx x), (83, .pointer (some ⟨h, 7, none⟩)), (84, .slice (some ⟨gd, od, none⟩) m2 q.e), (85, .int .i64 i), (86, .pointer (some ⟨gd, od + i * 8, none⟩)), (87, tmV qy y), (88, .bool r), (89, .bool (!r))] (show a.tmps.size = 91 from hs) (fun i h => hsame i h) ⟨(hf 0 _ 78 rfl rfl (by decide)).1, (hf 1 _ 79 rfl rfl (by decide)).1, (hf 2 _ 80 rfl rfl (by decide)).1, (hf 3 _ 81 rfl rfl (by decide)).1, (hf 4 _ 82 rfl rfl (by decide)).1, (hf 5 _ 83 rfl rfl (by decide)).1, (hf 6 _ 84 rfl rfl (by decide)).1, (hf 7 _ 85 rfl rfl (by decide)).1, (hf 8 _ 86 rfl rfl (by decide)).1, (hf 9 _ 87 rfl rfl (by decide)).1, (hf 10 _ 88 rfl rfl (by decide)).1, (hf 11 _ 89 rfl rfl (by decide)).1, trivial⟩ (by kernel_rfl)
  obtain ⟨tmps, defers⟩ := a
  obtain rfl : defers = [] := hd
  have hl' : tmps = _ := hl
  rw [hl']
  have hb' := est2_chg hb
  refine Eq.mp ?_ (hend w' ⟨hb'.os, hb'.tape, hb'.output, hb'.size, hb'.block⟩)
  kernel_rfl

end Go.Proofs.Ytdboloabpjmgaaa

/-! Sim -/
namespace Go.Proofs.Ytdboloabpjmgaaa
open Go.RowKit Go.Proofs.YtdboloabpjmgaaaW.PrintWords Go.RegionInvYtdboloabpjmgaaa Go.RegionEYtdboloabpjmgaaa

mutual
def simB : Lv → Lv → Bool
  | .mk k n ks, l => decide (k = l.kind) && (decide (k = 4) || decide (n = l.num)) && decide (ks.length = l.kids.length) && simKs ks l.kids
def simKs : List Lv → List Lv → Bool
  | [], _ => true
  | x :: r, ys => match ys with
    | [] => true
    | y :: s => simB x y && simKs r s
end
theorem sim_mk (k n : Int) (ks : List Lv) (l : Lv) : simB (.mk k n ks) l = (decide (k = l.kind) && (decide (k = 4) || decide (n = l.num)) && decide (ks.length = l.kids.length) && simKs ks l.kids) := by rw [simB]
theorem simKs_nil (ys : List Lv) : simKs [] ys = true := by rw [simKs]
theorem simKs_cons (x y : Lv) (r s : List Lv) : simKs (x :: r) (y :: s) = (simB x y && simKs r s) := by rw [simKs]
theorem sim_bad {k n : Int} {ks : List Lv} {l : Lv} (h : ¬ (k = l.kind ∧ (k = 4 ∨ n = l.num) ∧ ks.length = l.kids.length)) : simB (.mk k n ks) l = false := by
  rw [sim_mk]
  cases hb : simKs ks l.kids <;> simp_all
theorem sim_ok {k n : Int} {ks : List Lv} {l : Lv} (h : k = l.kind ∧ (k = 4 ∨ n = l.num) ∧ ks.length = l.kids.length) : simB (.mk k n ks) l = simKs ks l.kids := by
  rw [sim_mk]
  simp only [h.1, h.2.2, decide_true, Bool.true_and, Bool.and_true]
  rcases h.2.1 with h' | h'
  · rw [← h.1, h']; simp
  · rw [h']; simp
theorem simKs_not : ∀ {ks ys : List Lv} {i : Nat} {x y : Lv}, ks[i]? = some x → ys[i]? = some y → simB x y = false → simKs ks ys = false
  | [], _, i, x, y, h, _, _ => by simp at h
  | a :: r, [], i, x, y, _, h, _ => by simp at h
  | a :: r, b :: s, 0, x, y, h1, h2, h => by
    obtain rfl : a = x := by simpa using h1
    obtain rfl : b = y := by simpa using h2
    rw [simKs_cons, h]; rfl
  | a :: r, b :: s, i + 1, x, y, h1, h2, h => by
    rw [simKs_cons, simKs_not (by simpa using h1) (by simpa using h2) h]; simp
theorem simKs_all : ∀ {ks ys : List Lv}, ks.length = ys.length → (∀ (i : Nat) (x y : Lv), ks[i]? = some x → ys[i]? = some y → simB x y = true) → simKs ks ys = true
  | [], _, _, _ => simKs_nil _
  | a :: r, [], h, _ => by simp at h
  | a :: r, b :: s, h, hall => by
    rw [simKs_cons, hall 0 a b rfl rfl, simKs_all (by simpa using h) fun i x y h1 h2 => hall (i + 1) x y (by simpa using h1) (by simpa using h2)]; rfl
def SamePost (w : World) (g : Nat) (r : Bool) (s1 : Int) (e : Ending) (w' : World) : Prop := e = .returned (.bool r) ∧ (∃ s', NumAt w' g s' ∧ (r = true → s' = s1)) ∧ Chg (fun k => k = g) w w'
theorem szs_take {ks : List Lv} {j : Nat} {x : Lv} (h : ks[j]? = some x) : szs (ks.take (j + 1)) = szs (ks.take j) + sz x := by
  rw [List.take_add_one, h]
  have : ∀ (l : List Lv), szs (l ++ [x]) = szs l + sz x := by
    intro l
    induction l with
    | nil => rw [List.nil_append, szs_cons, szs_nil]; omega
    | cons y r ih => rw [List.cons_append, szs_cons, ih, szs_cons]; omega
  exact this _
theorem szs_part {ks : List Lv} {j : Nat} {x : Lv} (h : ks[j]? = some x) : szs (ks.take j) + sz x ≤ szs ks := by
  have h2 : ∀ (l : List Lv) (j : Nat), szs (l.take j) ≤ szs l := by
    intro l
    induction l with
    | nil => intro j; simp
    | cons y r ih =>
      intro j
      cases j with
      | zero => simp [szs_nil]
      | succ j => rw [List.take_succ_cons, szs_cons, szs_cons]; have := ih j; omega
  rw [← szs_take h]
  exact h2 _ _
end Go.Proofs.Ytdboloabpjmgaaa

/-! SmR -/
namespace Go.Proofs.Ytdboloabpjmgaaa
open Go.RowKit Go.Proofs.YtdboloabpjmgaaaW.PrintWords Go.RegionInvYtdboloabpjmgaaa Go.RegionEYtdboloabpjmgaaa
set_option linter.unusedVariables false

def sm_ops : List Oper := [
  { dst := some 49, op := Go.Op.fieldAddr 25 (Go.Operand.tmp 3) 2, type := 0, pos := "ref.go:253", after := #[], guard := none },
  { dst := some 50, op := Go.Op.load 23 (Go.Operand.tmp 49), type := 23, pos := "ref.go:253", after := #[{ on := 0, ground := Go.Ground.data }], guard := none },
  { dst := some 51, op := Go.Op.move (Go.Operand.tmp 7), type := 3, pos := "ref.go:253", after := #[], guard := none },
  { dst := some 52, op := Go.Op.indexAddr 23 (Go.Operand.tmp 50) (Go.Operand.tmp 51), type := 0, pos := "ref.go:253", after := #[{ on := 1, ground := Go.Ground.data }, { on := 2, ground := Go.Ground.data }], guard := none },
  { dst := some 53, op := Go.Op.load 25 (Go.Operand.tmp 52), type := 25, pos := "ref.go:253", after := #[{ on := 3, ground := Go.Ground.data }], guard := none },
  { dst := some 54, op := Go.Op.fieldAddr 25 (Go.Operand.tmp 4) 2, type := 0, pos := "ref.go:253", after := #[], guard := none },
  { dst := some 55, op := Go.Op.load 23 (Go.Operand.tmp 54), type := 23, pos := "ref.go:253", after := #[{ on := 5, ground := Go.Ground.data }], guard := none },
  { dst := some 56, op := Go.Op.move (Go.Operand.tmp 7), type := 3, pos := "ref.go:253", after := #[], guard := none },
  { dst := some 57, op := Go.Op.indexAddr 23 (Go.Operand.tmp 55) (Go.Operand.tmp 56), type := 0, pos := "ref.go:253", after := #[{ on := 6, ground := Go.Ground.data }, { on := 7, ground := Go.Ground.data }], guard := none },
  { dst := some 58, op := Go.Op.load 25 (Go.Operand.tmp 57), type := 25, pos := "ref.go:253", after := #[{ on := 8, ground := Go.Ground.data }], guard := none },
  { dst := some 59, op := Go.Op.move (Go.Operand.tmp 2), type := 73, pos := "ref.go:253", after := #[], guard := none },
  { dst := some 60, op := Go.Op.call { callee := Go.Callee.value (Go.Operand.func 102), args := #[Go.Operand.tmp 53, Go.Operand.tmp 58, Go.Operand.tmp 59], argTypes := #[25, 25, 73] }, type := 4, pos := "ref.go:253", after := #[{ on := 4, ground := Go.Ground.data }, { on := 9, ground := Go.Ground.data }, { on := 10, ground := Go.Ground.data }], guard := none },
  { dst := some 61, op := Go.Op.unOp Go.UnOp.not 4 (Go.Operand.tmp 60), type := 4, pos := "ref.go:253", after := #[{ on := 11, ground := Go.Ground.data }], guard := none }]
def sm_F (w0 : World) (g b : Nat) (i : Nat) (k1 n1 k2 n2 : Int) (ga oa gd od m ca cd : Nat) (xk xn yk yn : Int) (A1 A2 : Option Addr) (m1 c1 m2 c2 : Nat) (r : Bool) (cnt1 : Int) : Nat → (Nat → Value) → Value → World → (Nat → Prop) → Prop := fun rix => match rix with
  | 0 => fun _ v _ _ => v = .pointer (some ⟨b, 2, none⟩)
  | 1 => fun _ v _ _ => v = .slice (some ⟨ga, oa, none⟩) m ca
  | 2 => fun _ v _ _ => v = .int .i64 i
  | 3 => fun _ v _ _ => v = .pointer (some ⟨ga, oa + i * 3, none⟩)
  | 4 => fun _ v _ _ => v = .agg #[.int .i64 xk, .int .i64 xn, .slice A1 m1 c1]
  | 5 => fun _ v _ _ => v = .pointer (some ⟨b + 1, 2, none⟩)
  | 6 => fun _ v _ _ => v = .slice (some ⟨gd, od, none⟩) m cd
  | 7 => fun _ v _ _ => v = .int .i64 i
  | 8 => fun _ v _ _ => v = .pointer (some ⟨gd, od + i * 3, none⟩)
  | 9 => fun _ v _ _ => v = .agg #[.int .i64 yk, .int .i64 yn, .slice A2 m2 c2]
  | 10 => fun _ v _ _ => v = .pointer (some ⟨g, 0, none⟩)
  | 11 => fun τ v w O => (v = .bool r ∧ O g ∧ ∃ s', NumAt w g s' ∧ (r = true → s' = cnt1))
  | 12 => fun _ v _ _ => v = .bool (!r)
  | _ => fun _ _ _ _ => True
def sm_C : Nat → List Nat := fun rix => match rix with
  | _ => []
theorem sm_nw2 : nwB sm_ops.toArray 2 = true := by kernel_rfl
theorem sm_nw3 : nwB sm_ops.toArray 3 = true := by kernel_rfl
theorem sm_nw4 : nwB sm_ops.toArray 4 = true := by kernel_rfl
theorem sm_nw7 : nwB sm_ops.toArray 7 = true := by kernel_rfl
set_option maxRecDepth 100000 in
set_option maxHeartbeats 8000000 in
theorem sm_obs (w0 : World) (g b : Nat) (i : Nat) (k1 n1 k2 n2 : Int) (ga oa gd od m ca cd : Nat) (xk xn yk yn : Int) (A1 A2 : Option Addr) (m1 c1 m2 c2 : Nat) (r : Bool) (cnt1 : Int) (hx3 : w0.heap[b]? = some (.cells #[.int .i64 k1, .int .i64 n1, .slice (some ⟨ga, oa, none⟩) m ca] 25 (0, 0))) (hx4 : w0.heap[b + 1]? = some (.cells #[.int .i64 k2, .int .i64 n2, .slice (some ⟨gd, od, none⟩) m cd] 25 (0, 0))) (hgb : g < b) (hga : ga < w0.heap.size) (hgag : ga ≠ g) (hgd : gd < w0.heap.size) (hgdg : gd ≠ g) (him : i < m) (hc0 : w0.cell? ⟨ga, oa + i * 3, none⟩ = some (.int .i64 xk)) (hc1 : w0.cell? ⟨ga, oa + i * 3 + 1, none⟩ = some (.int .i64 xn)) (hc2 : w0.cell? ⟨ga, oa + i * 3 + 2, none⟩ = some (.slice A1 m1 c1)) (hd0 : w0.cell? ⟨gd, od + i * 3, none⟩ = some (.int .i64 yk)) (hd1 : w0.cell? ⟨gd, od + i * 3 + 1, none⟩ = some (.int .i64 yn)) (hd2 : w0.cell? ⟨gd, od + i * 3 + 2, none⟩ = some (.slice A2 m2 c2)) {cnt0 : Int} (hg : NumAt w0 g cnt0) (hrec : ∀ w, (∀ k, k < w0.heap.size → k ≠ g → w.heap[k]? = w0.heap[k]?) → NumAt w g cnt0 → w0.heap.size ≤ w.heap.size → Calls Try.prog 102 #[.agg #[.int .i64 xk, .int .i64 xn, .slice A1 m1 c1], .agg #[.int .i64 yk, .int .i64 yn, .slice A2 m2 c2], .pointer (some ⟨g, 0, none⟩)] w (SamePost w g r cnt1)) (Q : Exit → Act → World → Prop) (a0 : Act) (hi2 : a0.tmps.getD 2 undef = .pointer (some ⟨g, 0, none⟩)) (hi3 : a0.tmps.getD 3 undef = .pointer (some ⟨b, 0, none⟩)) (hi4 : a0.tmps.getD 4 undef = .pointer (some ⟨b + 1, 0, none⟩)) (hi7 : a0.tmps.getD 7 undef = .int .i64 i) :
    ObsE Try.prog sm_ops.toArray Q (est2 11 0 (fun k => k = g) (fun _ => False)) sm_C (sm_F w0 g b i k1 n1 k2 n2 ga oa gd od m ca cd xk xn yk yn A1 A2 m1 c1 m2 c2 r cnt1) a0 w0 sm_ops.toArray.toList 0 := by
  have nw2 := sm_nw2
  have nw3 := sm_nw3
  have nw4 := sm_nw4
  have nw7 := sm_nw7
  refine ⟨?_, ?_, ?_, ?_, ?_, ?_, ?_, ?_, ?_, ?_, ?_, ?_, ?_, trivial⟩
  · refine ⟨⟨fun τ => stableE_det _, leans_not⟩, ?_⟩
    intro a w O hk
    have e3 : a.eval (.tmp 3) = .pointer (some ⟨b, 0, none⟩) := (hk.init 3 (initialB_of_nw nw3)).trans hi3
    exact obE_run (wanted_none rfl) (by unfold execOp; simp only []; rw [e3]; go_simp) rfl
  · refine ⟨⟨fun τ => stableE_det _, leans_not⟩, ?_⟩
    intro a w O hk
    have e49 : a.eval (.tmp 49) = .pointer (some ⟨b, 2, none⟩) := hk.fact 0 _ 49 rfl rfl rfl rfl
    have x3 := hk.world.still hx3 (fun ⟨_, h⟩ => h.elim (fun h => by have : b = g := h.2; omega) And.right)
    have x4 := hk.world.still hx4 (fun ⟨_, h⟩ => h.elim (fun h => by have : b + 1 = g := h.2; omega) And.right)
    obtain ⟨p0, p1, p2, -, -, -⟩ := row3 x3
    obtain ⟨q0, q1, q2, -, -, -⟩ := row3 x4
    have hfx : ∀ k, k < w0.heap.size → k ≠ g → w.heap[k]? = w0.heap[k]? := fun k hkb hkg => hk.fix k (est2_fix hkb (fun h => hkg h) (fun h => h))
    have hcc : ∀ j, w.cell? ⟨ga, j, none⟩ = w0.cell? ⟨ga, j, none⟩ := fun j => cell_same (hfx _ hga hgag)
    have hcd : ∀ j, w.cell? ⟨gd, j, none⟩ = w0.cell? ⟨gd, j, none⟩ := fun j => cell_same (hfx _ hgd hgdg)
    have r0 := (hcc _).trans hc0
    have r1 := (hcc _).trans hc1
    have r2 := (hcc _).trans hc2
    have t0 := (hcd _).trans hd0
    have t1 := (hcd _).trans hd1
    have t2 := (hcd _).trans hd2
    exact obE_run (wanted_none rfl) (by unfold execOp; simp only []; rw [e49]; go_simp) rfl
  · refine ⟨⟨fun τ => stableE_det _, leans_not⟩, ?_⟩
    intro a w O hk
    have e7 : a.eval (.tmp 7) = .int .i64 i := (hk.init 7 (initialB_of_nw nw7)).trans hi7
    exact toE (ob_move rfl e7 (wanted_none rfl) rfl)
  · refine ⟨⟨fun τ => stableE_det _, leans_not⟩, ?_⟩
    intro a w O hk
    have e50 : a.eval (.tmp 50) = .slice (some ⟨ga, oa, none⟩) m ca := hk.fact 1 _ 50 rfl rfl rfl rfl
    have e51 : a.eval (.tmp 51) = .int .i64 i := hk.fact 2 _ 51 rfl rfl rfl rfl
    have x3 := hk.world.still hx3 (fun ⟨_, h⟩ => h.elim (fun h => by have : b = g := h.2; omega) And.right)
    have x4 := hk.world.still hx4 (fun ⟨_, h⟩ => h.elim (fun h => by have : b + 1 = g := h.2; omega) And.right)
    obtain ⟨p0, p1, p2, -, -, -⟩ := row3 x3
    obtain ⟨q0, q1, q2, -, -, -⟩ := row3 x4
    have hfx : ∀ k, k < w0.heap.size → k ≠ g → w.heap[k]? = w0.heap[k]? := fun k hkb hkg => hk.fix k (est2_fix hkb (fun h => hkg h) (fun h => h))
    have hcc : ∀ j, w.cell? ⟨ga, j, none⟩ = w0.cell? ⟨ga, j, none⟩ := fun j => cell_same (hfx _ hga hgag)
    have hcd : ∀ j, w.cell? ⟨gd, j, none⟩ = w0.cell? ⟨gd, j, none⟩ := fun j => cell_same (hfx _ hgd hgdg)
    have r0 := (hcc _).trans hc0
    have r1 := (hcc _).trans hc1
    have r2 := (hcc _).trans hc2
    have t0 := (hcd _).trans hd0
    have t1 := (hcd _).trans hd1
    have t2 := (hcd _).trans hd2
    exact obE_run (wanted_none rfl) (by unfold execOp; simp only []; rw [e50, e51]; go_simp) rfl
  · refine ⟨⟨fun τ => stableE_det _, leans_not⟩, ?_⟩
    intro a w O hk
    have e52 : a.eval (.tmp 52) = .pointer (some ⟨ga, oa + i * 3, none⟩) := hk.fact 3 _ 52 rfl rfl rfl rfl
    have x3 := hk.world.still hx3 (fun ⟨_, h⟩ => h.elim (fun h => by have : b = g := h.2; omega) And.right)
    have x4 := hk.world.still hx4 (fun ⟨_, h⟩ => h.elim (fun h => by have : b + 1 = g := h.2; omega) And.right)
    obtain ⟨p0, p1, p2, -, -, -⟩ := row3 x3
    obtain ⟨q0, q1, q2, -, -, -⟩ := row3 x4
    have hfx : ∀ k, k < w0.heap.size → k ≠ g → w.heap[k]? = w0.heap[k]? := fun k hkb hkg => hk.fix k (est2_fix hkb (fun h => hkg h) (fun h => h))
    have hcc : ∀ j, w.cell? ⟨ga, j, none⟩ = w0.cell? ⟨ga, j, none⟩ := fun j => cell_same (hfx _ hga hgag)
    have hcd : ∀ j, w.cell? ⟨gd, j, none⟩ = w0.cell? ⟨gd, j, none⟩ := fun j => cell_same (hfx _ hgd hgdg)
    have r0 := (hcc _).trans hc0
    have r1 := (hcc _).trans hc1
    have r2 := (hcc _).trans hc2
    have t0 := (hcd _).trans hd0
    have t1 := (hcd _).trans hd1
    have t2 := (hcd _).trans hd2
    exact obE_run (wanted_none rfl) (by unfold execOp; simp only []; rw [e52]; go_simp) rfl
  · refine ⟨⟨fun τ => stableE_det _, leans_not⟩, ?_⟩
    intro a w O hk
    have e4 : a.eval (.tmp 4) = .pointer (some ⟨b + 1, 0, none⟩) := (hk.init 4 (initialB_of_nw nw4)).trans hi4
    exact obE_run (wanted_none rfl) (by unfold execOp; simp only []; rw [e4]; go_simp) rfl
  · refine ⟨⟨fun τ => stableE_det _, leans_not⟩, ?_⟩
    intro a w O hk
    have e54 : a.eval (.tmp 54) = .pointer (some ⟨b + 1, 2, none⟩) := hk.fact 5 _ 54 rfl rfl rfl rfl
    have x3 := hk.world.still hx3 (fun ⟨_, h⟩ => h.elim (fun h => by have : b = g := h.2; omega) And.right)
    have x4 := hk.world.still hx4 (fun ⟨_, h⟩ => h.elim (fun h => by have : b + 1 = g := h.2; omega) And.right)
    obtain ⟨p0, p1, p2, -, -, -⟩ := row3 x3
    obtain ⟨q0, q1, q2, -, -, -⟩ := row3 x4
    have hfx : ∀ k, k < w0.heap.size → k ≠ g → w.heap[k]? = w0.heap[k]? := fun k hkb hkg => hk.fix k (est2_fix hkb (fun h => hkg h) (fun h => h))
    have hcc : ∀ j, w.cell? ⟨ga, j, none⟩ = w0.cell? ⟨ga, j, none⟩ := fun j => cell_same (hfx _ hga hgag)
    have hcd : ∀ j, w.cell? ⟨gd, j, none⟩ = w0.cell? ⟨gd, j, none⟩ := fun j => cell_same (hfx _ hgd hgdg)
    have r0 := (hcc _).trans hc0
    have r1 := (hcc _).trans hc1
    have r2 := (hcc _).trans hc2
    have t0 := (hcd _).trans hd0
    have t1 := (hcd _).trans hd1
    have t2 := (hcd _).trans hd2
    exact obE_run (wanted_none rfl) (by unfold execOp; simp only []; rw [e54]; go_simp) rfl
  · refine ⟨⟨fun τ => stableE_det _, leans_not⟩, ?_⟩
    intro a w O hk
    have e7 : a.eval (.tmp 7) = .int .i64 i := (hk.init 7 (initialB_of_nw nw7)).trans hi7
    exact toE (ob_move rfl e7 (wanted_none rfl) rfl)
  · refine ⟨⟨fun τ => stableE_det _, leans_not⟩, ?_⟩
    intro a w O hk
    have e55 : a.eval (.tmp 55) = .slice (some ⟨gd, od, none⟩) m cd := hk.fact 6 _ 55 rfl rfl rfl rfl
    have e56 : a.eval (.tmp 56) = .int .i64 i := hk.fact 7 _ 56 rfl rfl rfl rfl
    have x3 := hk.world.still hx3 (fun ⟨_, h⟩ => h.elim (fun h => by have : b = g := h.2; omega) And.right)
    have x4 := hk.world.still hx4 (fun ⟨_, h⟩ => h.elim (fun h => by have : b + 1 = g := h.2; omega) And.right)
    obtain ⟨p0, p1, p2, -, -, -⟩ := row3 x3
    obtain ⟨q0, q1, q2, -, -, -⟩ := row3 x4
    have hfx : ∀ k, k < w0.heap.size → k ≠ g → w.heap[k]? = w0.heap[k]? := fun k hkb hkg => hk.fix k (est2_fix hkb (fun h => hkg h) (fun h => h))
    have hcc : ∀ j, w.cell? ⟨ga, j, none⟩ = w0.cell? ⟨ga, j, none⟩ := fun j => cell_same (hfx _ hga hgag)
    have hcd : ∀ j, w.cell? ⟨gd, j, none⟩ = w0.cell? ⟨gd, j, none⟩ := fun j => cell_same (hfx _ hgd hgdg)
    have r0 := (hcc _).trans hc0
    have r1 := (hcc _).trans hc1
    have r2 := (hcc _).trans hc2
    have t0 := (hcd _).trans hd0
    have t1 := (hcd _).trans hd1
    have t2 := (hcd _).trans hd2
    exact obE_run (wanted_none rfl) (by unfold execOp; simp only []; rw [e55, e56]; go_simp) rfl
  · refine ⟨⟨fun τ => stableE_det _, leans_not⟩, ?_⟩
    intro a w O hk
    have e57 : a.eval (.tmp 57) = .pointer (some ⟨gd, od + i * 3, none⟩) := hk.fact 8 _ 57 rfl rfl rfl rfl
    have x3 := hk.world.still hx3 (fun ⟨_, h⟩ => h.elim (fun h => by have : b = g := h.2; omega) And.right)
    have x4 := hk.world.still hx4 (fun ⟨_, h⟩ => h.elim (fun h => by have : b + 1 = g := h.2; omega) And.right)
    obtain ⟨p0, p1, p2, -, -, -⟩ := row3 x3
    obtain ⟨q0, q1, q2, -, -, -⟩ := row3 x4
    have hfx : ∀ k, k < w0.heap.size → k ≠ g → w.heap[k]? = w0.heap[k]? := fun k hkb hkg => hk.fix k (est2_fix hkb (fun h => hkg h) (fun h => h))
    have hcc : ∀ j, w.cell? ⟨ga, j, none⟩ = w0.cell? ⟨ga, j, none⟩ := fun j => cell_same (hfx _ hga hgag)
    have hcd : ∀ j, w.cell? ⟨gd, j, none⟩ = w0.cell? ⟨gd, j, none⟩ := fun j => cell_same (hfx _ hgd hgdg)
    have r0 := (hcc _).trans hc0
    have r1 := (hcc _).trans hc1
    have r2 := (hcc _).trans hc2
    have t0 := (hcd _).trans hd0
    have t1 := (hcd _).trans hd1
    have t2 := (hcd _).trans hd2
    exact obE_run (wanted_none rfl) (by unfold execOp; simp only []; rw [e57]; go_simp) rfl
  · refine ⟨⟨fun τ => stableE_det _, leans_not⟩, ?_⟩
    intro a w O hk
    have e2 : a.eval (.tmp 2) = .pointer (some ⟨g, 0, none⟩) := (hk.init 2 (initialB_of_nw nw2)).trans hi2
    exact toE (ob_move rfl e2 (wanted_none rfl) rfl)
  · refine ⟨⟨fun τ => fun v w w' O h hz hk => ⟨h.1, h.2.1, by obtain ⟨s', h1, h2⟩ := h.2.2; exact ⟨s', (hk g (blk_lt h1) (.inr h.2.1)).trans h1, h2⟩⟩, leans_not⟩, ?_⟩
    intro a w O hk
    have e53 : a.eval (.tmp 53) = .agg #[.int .i64 xk, .int .i64 xn, .slice A1 m1 c1] := hk.fact 4 _ 53 rfl rfl rfl rfl
    have e58 : a.eval (.tmp 58) = .agg #[.int .i64 yk, .int .i64 yn, .slice A2 m2 c2] := hk.fact 9 _ 58 rfl rfl rfl rfl
    have e59 : a.eval (.tmp 59) = .pointer (some ⟨g, 0, none⟩) := hk.fact 10 _ 59 rfl rfl rfl rfl
    have x3 := hk.world.still hx3 (fun ⟨_, h⟩ => h.elim (fun h => by have : b = g := h.2; omega) And.right)
    have x4 := hk.world.still hx4 (fun ⟨_, h⟩ => h.elim (fun h => by have : b + 1 = g := h.2; omega) And.right)
    obtain ⟨p0, p1, p2, -, -, -⟩ := row3 x3
    obtain ⟨q0, q1, q2, -, -, -⟩ := row3 x4
    have hfx : ∀ k, k < w0.heap.size → k ≠ g → w.heap[k]? = w0.heap[k]? := fun k hkb hkg => hk.fix k (est2_fix hkb (fun h => hkg h) (fun h => h))
    have hcc : ∀ j, w.cell? ⟨ga, j, none⟩ = w0.cell? ⟨ga, j, none⟩ := fun j => cell_same (hfx _ hga hgag)
    have hcd : ∀ j, w.cell? ⟨gd, j, none⟩ = w0.cell? ⟨gd, j, none⟩ := fun j => cell_same (hfx _ hgd hgdg)
    have r0 := (hcc _).trans hc0
    have r1 := (hcc _).trans hc1
    have r2 := (hcc _).trans hc2
    have t0 := (hcd _).trans hd0
    have t1 := (hcd _).trans hd1
    have t2 := (hcd _).trans hd2
    refine obE_call #[.agg #[.int .i64 xk, .int .i64 xn, .slice A1 m1 c1], .agg #[.int .i64 yk, .int .i64 yn, .slice A2 m2 c2], .pointer (some ⟨g, 0, none⟩)] rfl rfl rfl rfl (by simp only [List.map_cons, List.map_nil]; rw [e53, e58, e59]) (wanted_none rfl) ((hrec w hfx ((hk.est 11 _ rfl (.inl rfl) g (.inl ⟨rfl, rfl⟩)).trans hg) hk.world.size).mono ?_)
    rintro e w' ⟨rfl, hn, hc⟩
    exact ⟨_, fun k => k = g, rfl, ⟨rfl, rfl, hn⟩, hc.mono fun k h => .inr (.inl ⟨rfl, h⟩), fun k h => .inl (.inr (.inl ⟨rfl, h⟩))⟩
  · refine ⟨⟨fun τ => stableE_det _, leans_not⟩, ?_⟩
    intro a w O hk
    have f60 := hk.fact 11 _ 60 rfl rfl rfl rfl
    have g60 := hk.owns 11 rfl rfl
    have x3 := hk.world.still hx3 (fun ⟨_, h⟩ => h.elim (fun h => by have : b = g := h.2; omega) And.right)
    have x4 := hk.world.still hx4 (fun ⟨_, h⟩ => h.elim (fun h => by have : b + 1 = g := h.2; omega) And.right)
    obtain ⟨p0, p1, p2, -, -, -⟩ := row3 x3
    obtain ⟨q0, q1, q2, -, -, -⟩ := row3 x4
    have hfx : ∀ k, k < w0.heap.size → k ≠ g → w.heap[k]? = w0.heap[k]? := fun k hkb hkg => hk.fix k (est2_fix hkb (fun h => hkg h) (fun h => h))
    have hcc : ∀ j, w.cell? ⟨ga, j, none⟩ = w0.cell? ⟨ga, j, none⟩ := fun j => cell_same (hfx _ hga hgag)
    have hcd : ∀ j, w.cell? ⟨gd, j, none⟩ = w0.cell? ⟨gd, j, none⟩ := fun j => cell_same (hfx _ hgd hgdg)
    have r0 := (hcc _).trans hc0
    have r1 := (hcc _).trans hc1
    have r2 := (hcc _).trans hc2
    have t0 := (hcd _).trans hd0
    have t1 := (hcd _).trans hd1
    have t2 := (hcd _).trans hd2
    have e60 : a.eval (.tmp 60) = .bool r := f60.1
    exact obE_run (wanted_none rfl) (by unfold execOp; simp only []; rw [e60]; go_simp) rfl
set_option maxRecDepth 100000 in
set_option maxHeartbeats 8000000 in
theorem sm_region {Q : Exit → Act → World → Prop} {id : Nat} (w0 : World) (g b : Nat) (i : Nat) (k1 n1 k2 n2 : Int) (ga oa gd od m ca cd : Nat) (xk xn yk yn : Int) (A1 A2 : Option Addr) (m1 c1 m2 c2 : Nat) (r : Bool) (cnt1 : Int) {s0 s1 s5 s6 s8 s9 s10 s11 s12 s13 s14 s15 s16 s17 s18 s19 s20 s21 s22 s23 s24 s25 s26 s27 s28 s29 s30 s31 s32 s33 s34 s35 s36 s37 s38 s39 s40 s41 s42 s43 s44 s45 s46 s47 s48 s49 s50 s51 s52 s53 s54 s55 s56 s57 s58 s59 s60 s61 s62 : Value} (hx3 : w0.heap[b]? = some (.cells #[.int .i64 k1, .int .i64 n1, .slice (some ⟨ga, oa, none⟩) m ca] 25 (0, 0))) (hx4 : w0.heap[b + 1]? = some (.cells #[.int .i64 k2, .int .i64 n2, .slice (some ⟨gd, od, none⟩) m cd] 25 (0, 0))) (hgb : g < b) (hga : ga < w0.heap.size) (hgag : ga ≠ g) (hgd : gd < w0.heap.size) (hgdg : gd ≠ g) (him : i < m) (hc0 : w0.cell? ⟨ga, oa + i * 3, none⟩ = some (.int .i64 xk)) (hc1 : w0.cell? ⟨ga, oa + i * 3 + 1, none⟩ = some (.int .i64 xn)) (hc2 : w0.cell? ⟨ga, oa + i * 3 + 2, none⟩ = some (.slice A1 m1 c1)) (hd0 : w0.cell? ⟨gd, od + i * 3, none⟩ = some (.int .i64 yk)) (hd1 : w0.cell? ⟨gd, od + i * 3 + 1, none⟩ = some (.int .i64 yn)) (hd2 : w0.cell? ⟨gd, od + i * 3 + 2, none⟩ = some (.slice A2 m2 c2)) {cnt0 : Int} (hg : NumAt w0 g cnt0) (hrec : ∀ w, (∀ k, k < w0.heap.size → k ≠ g → w.heap[k]? = w0.heap[k]?) → NumAt w g cnt0 → w0.heap.size ≤ w.heap.size → Calls Try.prog 102 #[.agg #[.int .i64 xk, .int .i64 xn, .slice A1 m1 c1], .agg #[.int .i64 yk, .int .i64 yn, .slice A2 m2 c2], .pointer (some ⟨g, 0, none⟩)] w (SamePost w g r cnt1))
    (hend : ∀ (w' : World) (u60 : Value) (O11 : Nat → Prop), Chg (fun k => (fun k => k = g) k ∨ (fun _ => False) k) w0 w' → ((u60 = .bool r ∧ O11 g ∧ ∃ s', NumAt w' g s' ∧ (r = true → s' = cnt1))) → (∀ k, O11 k → k < w'.heap.size ∧ ¬ Fix w0 (est2 11 0 (fun k => k = g) (fun _ => False)) k) → Q .normal { tmps := (s0 :: s1 :: (.pointer (some ⟨g, 0, none⟩)) :: (.pointer (some ⟨b, 0, none⟩)) :: (.pointer (some ⟨b + 1, 0, none⟩)) :: s5 :: s6 :: (.int .i64 i) :: s8 :: s9 :: s10 :: s11 :: s12 :: s13 :: s14 :: s15 :: s16 :: s17 :: s18 :: s19 :: s20 :: s21 :: s22 :: s23 :: s24 :: s25 :: s26 :: s27 :: s28 :: s29 :: s30 :: s31 :: s32 :: s33 :: s34 :: s35 :: s36 :: s37 :: s38 :: s39 :: s40 :: s41 :: s42 :: s43 :: s44 :: s45 :: s46 :: s47 :: s48 :: (.pointer (some ⟨b, 2, none⟩)) :: (.slice (some ⟨ga, oa, none⟩) m ca) :: (.int .i64 i) :: (.pointer (some ⟨ga, oa + i * 3, none⟩)) :: (.agg #[.int .i64 xk, .int .i64 xn, .slice A1 m1 c1]) :: (.pointer (some ⟨b + 1, 2, none⟩)) :: (.slice (some ⟨gd, od, none⟩) m cd) :: (.int .i64 i) :: (.pointer (some ⟨gd, od + i * 3, none⟩)) :: (.agg #[.int .i64 yk, .int .i64 yn, .slice A2 m2 c2]) :: (.pointer (some ⟨g, 0, none⟩)) :: u60 :: (.bool (!r)) :: s62 :: [] : List Value).toArray, defers := [] } w') :
    (Code.region id sm_ops.toArray true).wp Try.prog Q { tmps := (s0 :: s1 :: (.pointer (some ⟨g, 0, none⟩)) :: (.pointer (some ⟨b, 0, none⟩)) :: (.pointer (some ⟨b + 1, 0, none⟩)) :: s5 :: s6 :: (.int .i64 i) :: s8 :: s9 :: s10 :: s11 :: s12 :: s13 :: s14 :: s15 :: s16 :: s17 :: s18 :: s19 :: s20 :: s21 :: s22 :: s23 :: s24 :: s25 :: s26 :: s27 :: s28 :: s29 :: s30 :: s31 :: s32 :: s33 :: s34 :: s35 :: s36 :: s37 :: s38 :: s39 :: s40 :: s41 :: s42 :: s43 :: s44 :: s45 :: s46 :: s47 :: s48 :: s49 :: s50 :: s51 :: s52 :: s53 :: s54 :: s55 :: s56 :: s57 :: s58 :: s59 :: s60 :: s61 :: s62 :: [] : List Value).toArray, defers := [] } w0 := by
  refine wp_region_est (by kernel_rfl) (est2 11 0 (fun k => k = g) (fun _ => False)) sm_C (sm_F w0 g b i k1 n1 k2 n2 ga oa gd od m ca cd xk xn yk yn A1 A2 m1 c1 m2 c2 r cnt1) (est2_dis (fun k h1 h2 => h2)) (est2_range (fun k h => by have : k = g := h; have := blk_lt hx3; omega) (fun k h => h.elim)) (by rfl) (by kernel_rfl) (sm_obs w0.drew g b i k1 n1 k2 n2 ga oa gd od m ca cd xk xn yk yn A1 A2 m1 c1 m2 c2 r cnt1 hx3 hx4 hgb hga hgag hgd hgdg him hc0 hc1 hc2 hd0 hd1 hd2 hg hrec _ _ rfl rfl rfl rfl) ?_
  intro a w' O hd hs hb hf hf2 ha hsame
  have hl := slots_eq (ops := sm_ops.toArray) [(49, .pointer (some ⟨b, 2, none⟩)), (50, .slice (some ⟨ga, oa, none⟩) m ca), (51, .int .i64 i), (52, .pointer (some ⟨ga, oa + i * 3, none⟩)), (53, .agg #[.int .i64 xk, .int .i64 xn, .slice A1 m1 c1]), (54, .pointer (some ⟨b + 1, 2, none⟩)), (55, .slice (some ⟨gd, od, none⟩) m cd), (56, .int .i64 i), (57, .pointer (some ⟨gd, od + i * 3, none⟩)), (58, .agg #[.int .i64 yk, .int .i64 yn, .slice A2 m2 c2]), (59, .pointer (some ⟨g, 0, none⟩)), (60, a.tmps.getD 60 undef), (61, .bool (!r))] (show a.tmps.size = 63 from hs) (fun i h => hsame i h) ⟨(hf 0 _ 49 rfl rfl (by decide)).1, (hf 1 _ 50 rfl rfl (by decide)).1, (hf 2 _ 51 rfl rfl (by decide)).1, (hf 3 _ 52 rfl rfl (by decide)).1, (hf 4 _ 53 rfl rfl (by decide)).1, (hf 5 _ 54 rfl rfl (by decide)).1, (hf 6 _ 55 rfl rfl (by decide)).1, (hf 7 _ 56 rfl rfl (by decide)).1, (hf 8 _ 57 rfl rfl (by decide)).1, (hf 9 _ 58 rfl rfl (by decide)).1, (hf 10 _ 59 rfl rfl (by decide)).1, rfl, (hf 12 _ 61 rfl rfl (by decide)).1, trivial⟩ (by kernel_rfl)
  obtain ⟨tmps, defers⟩ := a
  obtain rfl : defers = [] := hd
  have hl' : tmps = _ := hl
  rw [hl']
  have hb' := est2_chg hb
  refine Eq.mp ?_ (hend w' (tmps.getD 60 undef) (O 11) ⟨hb'.os, hb'.tape, hb'.output, hb'.size, hb'.block⟩ (hf 11 _ 60 rfl rfl (by decide)).1 (hf 11 _ 60 rfl rfl (by decide)).2)
  kernel_rfl

end Go.Proofs.Ytdboloabpjmgaaa
