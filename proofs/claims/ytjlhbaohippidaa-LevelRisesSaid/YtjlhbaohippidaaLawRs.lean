/-
  The walk of the law LevelRises.
-/
import Derived.Test.YtjlhbaohippidaaRsR
import Derived.Test.YtjlhbaohippidaaLawMx
namespace Go.Proofs.Ytjlhbaohippidaa
open Go.RowKit Go.IntWalk Go.Proofs.YtjlhbaohippidaaW.PrintWords Go.RegionInvYtjlhbaohippidaa Go.RegionEYtjlhbaohippidaa

/-! ### plainly -/
theorem least_plus {f : Nf} {k b : Int} (hf : NfOk f) (hk : 0 ≤ k) (hs : Sml f b) (hb : b + k ≤ 1099511627776) : leastN (plusN k f) = leastN f + k := by
  have h0 := hf.1
  have hg := least_ge f
  have hg' := least_ge (plusN k f)
  have hs1 := hs.1
  rw [plus_fst] at hg'
  apply Int.le_antisymm
  · refine least_le (by rw [plus_fst]; omega) fun j => ?_
    rw [atP_plus]
    have := least_at (f := f) j (by omega)
    unfold addN
    split <;> omega
  · have key : leastN f ≤ leastN (plusN k f) - k := by
      refine least_le (by omega) fun j => ?_
      have h1 := least_at (f := plusN k f) j (by omega)
      have h2 := hs.2 j
      rw [atP_plus] at h1
      unfold addN at h1
      split at h1 <;> omega
    omega
theorem rises_1 {a : Lv} {k : Int} (ha : soundB a = true) (hk : 1 ≤ k) (hx : soundB (plP k a) = true) : leqP a (plP k a) = true := by
  rw [leqP_iff ha hx, pl_sum ha hk]
  have hok := sumP_ok ha
  have hg := least_ge (plusN k (sumP a))
  rw [plus_fst] at hg
  have h1 := hok.2.1
  refine ⟨fun j => ?_, by omega⟩
  rw [atP_plus]
  have := (atP_ok hok.2.2.1 j).2
  unfold addN
  split <;> omega
theorem rises_2 {a : Lv} {k : Int} (ha : soundB a = true) (hl : litP a = true) (hk : 1 ≤ k) (hk2 : k ≤ 1000) (hx : soundB (plP k a) = true) : leqP (plP k a) a = false := by
  cases h : leqP (plP k a) a with
  | false => rfl
  | true =>
    exfalso
    rw [leqP_iff hx ha, pl_sum ha hk] at h
    have hok := sumP_ok ha
    have hs := sml_sound ha hl
    have h0 := hok.1
    have hs1 := hs.1
    have h1 := h.2
    rw [plus_fst] at h1
    have h2 : leastN (sumP a) ≤ (sumP a).1 := by
      refine least_le (Int.le_refl _) fun j => ?_
      have h3 := h.1 j
      rw [atP_plus] at h3
      have h4 := hs.2 j
      unfold addN at h3
      split at h3 <;> omega
    omega
theorem rises_3 {a b : Lv} {k : Int} (ha : soundB a = true) (hb : soundB b = true) (hla : litP a = true) (hlb : litP b = true) (hk : 1 ≤ k) (hk2 : k ≤ 1000) (hx : soundB (plP k a) = true) (hy : soundB (plP k b) = true) : leqP a b = leqP (plP k a) (plP k b) := by
  have hoa := sumP_ok ha
  have hob := sumP_ok hb
  have hsa := sml_sound ha hla
  have hsb := sml_sound hb hlb
  have hl := least_plus (k := k) hob (by omega) hsb (by omega)
  have h1 := hsa.1
  have key : leqP a b = true ↔ leqP (plP k a) (plP k b) = true := by
    rw [leqP_iff ha hb, leqP_iff hx hy, pl_sum ha hk, pl_sum hb hk]
    unfold leqR
    rw [hl, plus_fst]
    constructor
    · rintro ⟨hj, hc⟩
      refine ⟨fun j => ?_, by omega⟩
      have h2 := hj j
      have h3 := hsa.2 j
      have h4 := hsb.2 j
      rw [atP_plus, atP_plus]
      unfold addN
      split <;> split <;> omega
    · rintro ⟨hj, hc⟩
      refine ⟨fun j => ?_, by omega⟩
      have h2 := hj j
      have h3 := hsa.2 j
      have h4 := hsb.2 j
      have h5 := atP_ge hoa j
      have h6 := atP_ge hob j
      rw [atP_plus, atP_plus] at h2
      unfold addN at h2
      split at h2 <;> split at h2 <;> omega
  cases h1 : leqP a b <;> cases h2 : leqP (plP k a) (plP k b) <;> simp_all
theorem rises_4 {a : Lv} {k : Int} (ha : soundB a = true) (hk : 1 ≤ k) (hk2 : k ≤ 1000) (hx : soundB (plP k a) = true) : eqP (plP 1 (plP k a)) (plP (k + 1) a) = true := by
  have hok := sumP_ok ha
  have hX := (sound_iff _).1 hx
  have hz := pl_sz hx (n := 1) (by decide)
  rw [if_pos (pl_kind ha hk)] at hz
  have h1 : soundB (plP 1 (plP k a)) = true := (sound_iff _).2 ⟨pl_good hx (by decide) (by decide), by omega, by omega⟩
  have h2 : soundB (plP (k + 1) a) = true := by
    have e1 := pl_sz ha hk
    have e2 := pl_sz ha (n := k + 1) (by omega)
    exact (sound_iff _).2 ⟨pl_good ha (by omega) (by omega), by omega, by omega⟩
  rw [eqP_3 h1 h2, pl_sum hx (by decide), pl_sum ha hk, pl_sum ha (by omega), plusN_plusN (by decide) (by omega) hok.1]
  exact decide_eq_true (by rw [show (1 : Int) + k = k + 1 by omega])
theorem rises_k (n : Int) : 1 ≤ wrap64 (wrap64 ((IntKind.u64.wrap n).tmod 1000) + 1) ∧ wrap64 (wrap64 ((IntKind.u64.wrap n).tmod 1000) + 1) ≤ 1000 := by
  obtain ⟨m, hm⟩ : ∃ m, m = IntKind.u64.wrap n := ⟨_, rfl⟩
  have h0 : 0 ≤ m := by rw [hm, IntKind.wrap_u64]; omega
  rw [← hm, Int.tmod_eq_emod_of_nonneg h0, wrap64_in (m % 1000) (by omega), wrap64_in _ (by omega)]
  omega
theorem gi (l : Lv) : soundB l = true ∨ soundB l = false := by cases soundB l <;> simp
theorem li (l : Lv) : litP l = true ∨ litP l = false := by cases litP l <;> simp
set_option maxHeartbeats 8000000 in
theorem rises_calls (A B : Option Addr) (c c' : Nat) (a b : Lv) (n : Int) (w : World) (ha : LvIn w w.heap.size A c a) (hb : LvIn w w.heap.size B c' b) (hna : -9223372036854775808 ≤ a.num) (hnb : -9223372036854775808 ≤ b.num) (_hn : -9223372036854775808 ≤ n ∧ n ≤ 9223372036854775807) :
    Calls Try.prog 6 #[lvV A c a, lvV B c' b, .int .i64 n] w fun e w' => e = .returned (.bool true) ∧ Below w.heap.size w w' := by
  have HA := Aside0.mk ha
  have HB := Aside0.mk hb
  have HW := Aside0.mk (show Below w.heap.size w (bx2 w A B c c' a b) from below_alloc (below_alloc (Below.refl _ _) _) _)
  have HX := Aside0.mk (show (bx2 w A B c c' a b).heap[w.heap.size]? = some (.cells #[.int .i64 a.kind, .int .i64 a.num, .slice A a.kids.length c] 24 (0, 0)) from box0 w _ _)
  have HY := Aside0.mk (show (bx2 w A B c c' a b).heap[w.heap.size + 1]? = some (.cells #[.int .i64 b.kind, .int .i64 b.num, .slice B b.kids.length c'] 24 (0, 0)) from box1 w _ _)
  clear ha hb
  have HNA := Aside0.mk hna
  have HNB := Aside0.mk hnb
  clear hna hnb
  unfold lvV
  go_enter Try.func6, Try.ntmps6
  have HBL := HW
  rcases gi a with hsa | hsa
  · have SA := Aside0.mk hsa
    clear hsa
    rcases gi b with hsb | hsb
    · have SB := Aside0.mk hsb
      clear hsb
      rcases li a with hla | hla
      · have LA := Aside0.mk hla
        clear hla
        rcases li b with hlb | hlb
        · have LB := Aside0.mk hlb
          clear hlb
          go_upto_region 4 with (first
            | (have hg := HX3; clear hg; go_at_call 19; go_must (refine (little_calls _ b (Nat.lt_succ_self _) B c' _ (LvS.all (HB.out.stay HBL.out))).mono ?_; rintro e w4 ⟨rfl, hb⟩; rw [LB.out]; have HBN := Aside0.mk (below_then HBL.out HBL.out.size hb); have HX4 := Aside0.mk (blk_below HX3.out hb); have HY4 := Aside0.mk (blk_below HY3.out hb); clear hb HBL; have HBL := HBN; clear HBN))
            | (go_at_call 19; go_must (refine (little_calls _ a (Nat.lt_succ_self _) A c _ (LvS.all (HA.out.stay HBL.out))).mono ?_; rintro e w3 ⟨rfl, hb⟩; rw [LA.out]; have HBN := Aside0.mk (below_then HBL.out HBL.out.size hb); have HX3 := Aside0.mk (blk_below HX2.out hb); have HY3 := Aside0.mk (blk_below HY2.out hb); obtain ⟨r0, r1, r2, -, -, -⟩ := row3 HY3.out; clear hb HBL; have HBL := HBN; clear HBN))
            | (have hg := HX1; clear hg; go_at_call 16; go_must (refine (refSound_calls B c' b _ (LvS.all (HB.out.stay HBL.out))).mono ?_; rintro e w2 ⟨rfl, hb⟩; rw [SB.out]; have HBN := Aside0.mk (below_then HBL.out HBL.out.size hb); have HX2 := Aside0.mk (blk_below HX1.out hb); have HY2 := Aside0.mk (blk_below HY1.out hb); obtain ⟨q0, q1, q2, -, -, -⟩ := row3 HX2.out; clear hb HBL; have HBL := HBN; clear HBN))
            | (go_at_call 16; go_must (refine (refSound_calls A c a _ (LvS.all (HA.out.stay HBL.out))).mono ?_; rintro e w1 ⟨rfl, hb⟩; rw [SA.out]; have HBN := Aside0.mk (below_then HBL.out HBL.out.size hb); have HX1 := Aside0.mk (blk_below HX.out hb); have HY1 := Aside0.mk (blk_below HY.out hb); obtain ⟨p0, p1, p2, -, -, -⟩ := row3 HY1.out; clear hb HBL; have HBL := HBN; clear HBN)))
          have hkk := rises_k n
          obtain ⟨k, hk⟩ : ∃ k, k = wrap64 (wrap64 ((IntKind.u64.wrap n).tmod 1000) + 1) := ⟨_, rfl⟩
          rw [← hk] at hkk ⊢
          obtain ⟨hk1, hk2⟩ := hkk
          clear hk
          refine rsa_region w4 w.heap.size A B c c' a b k HX4.out (lv_old HA.out HBL.out) HY4.out (lv_old HB.out HBL.out) hk1 hk2 HNA.out HNB.out ?_
          rintro w5 u7 u8 u35 u38 v8 O8 v9 O9 hch ⟨p, rfl, hfx⟩ - ⟨q, rfl, hfy⟩ -
          have hb' : Below w4.heap.size w4 w5 := hch.below (fun _ h => h.elim False.elim False.elim) (Nat.le_refl _)
          have HX5 := Aside0.mk (blk_below HX4.out hb')
          have HY5 := Aside0.mk (blk_below HY4.out hb')
          have HBN := Aside0.mk (below_then HBL.out HBL.out.size hb')
          clear hch hb' HBL
          have HBL := HBN
          clear HBN
          obtain ⟨Ax, cx, hpx, -, hlx⟩ := hfx
          obtain ⟨Ay, cy, hpy, -, hly⟩ := hfy
          have HLX := Aside0.mk hlx
          have HLY := Aside0.mk hly
          have HP5 := Aside0.mk hpx
          have HQ5 := Aside0.mk hpy
          obtain ⟨x, hx⟩ : ∃ x, x = plP k a := ⟨_, rfl⟩
          obtain ⟨y, hy⟩ : ∃ y, y = plP k b := ⟨_, rfl⟩
          rw [← hx] at HLX HP5
          rw [← hy] at HLY HQ5
          have HXE := Aside0.mk hx
          have HYE := Aside0.mk hy
          obtain ⟨i0, i1, i2, -, -, -⟩ := row3 HP5.out
          clear hlx hly hpx hpy hx hy
          rcases gi x with sx | sx
          · have SX := Aside0.mk sx
            clear sx
            rcases gi y with sy | sy
            · have SY := Aside0.mk sy
              clear sy
              go_upto_region 7 with (first
                | (have hg := HX6; clear hg; go_at_call 16; go_must (refine (refSound_calls Ay cy y _ HLY6.out.all).mono ?_; rintro e w7 ⟨rfl, hb⟩; rw [SY.out]; have HBN := Aside0.mk (below_then HBL.out HBL.out.size hb); have HX7 := Aside0.mk (blk_below HX6.out hb); have HY7 := Aside0.mk (blk_below HY6.out hb); have HP7 := Aside0.mk (blk_below HP6.out hb); have HQ7 := Aside0.mk (blk_below HQ6.out hb); have HLX7 := Aside0.mk (HLX6.out.later hb); have HLY7 := Aside0.mk (HLY6.out.later hb); clear hb HBL; have HBL := HBN; clear HBN))
                | (go_at_call 16; go_must (refine (refSound_calls Ax cx x _ HLX.out.all).mono ?_; rintro e w6 ⟨rfl, hb⟩; rw [SX.out]; have HBN := Aside0.mk (below_then HBL.out HBL.out.size hb); have HX6 := Aside0.mk (blk_below HX5.out hb); have HY6 := Aside0.mk (blk_below HY5.out hb); have HP6 := Aside0.mk (blk_below HP5.out hb); have HQ6 := Aside0.mk (blk_below HQ5.out hb); have HLX6 := Aside0.mk (HLX.out.later hb); have HLY6 := Aside0.mk (HLY.out.later hb); obtain ⟨s0, s1, s2, -, -, -⟩ := row3 HQ6.out; clear hb HBL; have HBL := HBN; clear HBN)))
              have hX : soundB (plP k a) = true := by rw [← HXE.out]; exact SX.out
              have hY : soundB (plP k b) = true := by rw [← HYE.out]; exact SY.out
              refine rsb_region w7 w.heap.size A B c c' a b k p q Ax Ay cx cy x y HX7.out (lv_old HA.out HBL.out) HY7.out (lv_old HB.out HBL.out) HP7.out (LvS.all HLX7.out) HQ7.out (LvS.all HLY7.out) hk1 hk2 HNA.out HNB.out (by have := pl_num SA.out hk1; omega) (by rw [i64_left, wrap64_in _ (by omega)]) (by rw [HXE.out]; exact rises_1 SA.out hk1 hX) (by rw [HXE.out]; exact rises_2 SA.out LA.out hk1 hk2 hX) (by rw [HXE.out, HYE.out]; exact rises_3 SA.out SB.out LA.out LB.out hk1 hk2 hX hY) (rises_4 SA.out hk1 hk2 hX) ?_
              intro w9 u69 u70 u74 O22 O26 hch _ _ _ _
              have HBN := Aside0.mk (below_then HBL.out HBL.out.size (hch.below (fun _ h => h.elim False.elim False.elim) (Nat.le_refl _)))
              clear hch hX hY
              go_wp2
              go_ret
              exact ⟨rfl, HBN.out⟩
            · have SY := Aside0.mk sy
              clear sy
              go_wp2_with (first
                | (go_at_call 13; go_must (refine (awake_calls _).mono ?_; rintro e w9 ⟨rfl, hb⟩; have HBN := Aside0.mk (below_then HBL.out HBL.out.size hb); clear hb HBL; have HBL := HBN; clear HBN))
                | (have hg := HX6; clear hg; go_at_call 16; go_must (refine (refSound_calls Ay cy y _ HLY6.out.all).mono ?_; rintro e w7 ⟨rfl, hb⟩; rw [SY.out]; have HBN := Aside0.mk (below_then HBL.out HBL.out.size hb); have HX7 := Aside0.mk (blk_below HX6.out hb); have HY7 := Aside0.mk (blk_below HY6.out hb); have HP7 := Aside0.mk (blk_below HP6.out hb); have HQ7 := Aside0.mk (blk_below HQ6.out hb); have HLX7 := Aside0.mk (HLX6.out.later hb); have HLY7 := Aside0.mk (HLY6.out.later hb); clear hb HBL; have HBL := HBN; clear HBN))
                | (go_at_call 16; go_must (refine (refSound_calls Ax cx x _ HLX.out.all).mono ?_; rintro e w6 ⟨rfl, hb⟩; rw [SX.out]; have HBN := Aside0.mk (below_then HBL.out HBL.out.size hb); have HX6 := Aside0.mk (blk_below HX5.out hb); have HY6 := Aside0.mk (blk_below HY5.out hb); have HP6 := Aside0.mk (blk_below HP5.out hb); have HQ6 := Aside0.mk (blk_below HQ5.out hb); have HLX6 := Aside0.mk (HLX.out.later hb); have HLY6 := Aside0.mk (HLY.out.later hb); obtain ⟨s0, s1, s2, -, -, -⟩ := row3 HQ6.out; clear hb HBL; have HBL := HBN; clear HBN)))
              go_ret
              exact ⟨rfl, HBL.out⟩
          · have SX := Aside0.mk sx
            clear sx
            go_wp2_with (first
              | (go_at_call 13; go_must (refine (awake_calls _).mono ?_; rintro e w9 ⟨rfl, hb⟩; have HBN := Aside0.mk (below_then HBL.out HBL.out.size hb); clear hb HBL; have HBL := HBN; clear HBN))
              | (go_at_call 16; go_must (refine (refSound_calls Ax cx x _ HLX.out.all).mono ?_; rintro e w6 ⟨rfl, hb⟩; rw [SX.out]; have HBN := Aside0.mk (below_then HBL.out HBL.out.size hb); have HX6 := Aside0.mk (blk_below HX5.out hb); have HY6 := Aside0.mk (blk_below HY5.out hb); have HP6 := Aside0.mk (blk_below HP5.out hb); have HQ6 := Aside0.mk (blk_below HQ5.out hb); have HLX6 := Aside0.mk (HLX.out.later hb); have HLY6 := Aside0.mk (HLY.out.later hb); obtain ⟨s0, s1, s2, -, -, -⟩ := row3 HQ6.out; clear hb HBL; have HBL := HBN; clear HBN)))
            go_ret
            exact ⟨rfl, HBL.out⟩
        · have LB := Aside0.mk hlb
          clear hlb
          go_wp2_with (first
            | (go_at_call 13; go_must (refine (awake_calls _).mono ?_; rintro e w9 ⟨rfl, hb⟩; have HBN := Aside0.mk (below_then HBL.out HBL.out.size hb); clear hb HBL; have HBL := HBN; clear HBN))
            | (have hg := HX3; clear hg; go_at_call 19; go_must (refine (little_calls _ b (Nat.lt_succ_self _) B c' _ (LvS.all (HB.out.stay HBL.out))).mono ?_; rintro e w4 ⟨rfl, hb⟩; rw [LB.out]; have HBN := Aside0.mk (below_then HBL.out HBL.out.size hb); have HX4 := Aside0.mk (blk_below HX3.out hb); have HY4 := Aside0.mk (blk_below HY3.out hb); clear hb HBL; have HBL := HBN; clear HBN))
            | (go_at_call 19; go_must (refine (little_calls _ a (Nat.lt_succ_self _) A c _ (LvS.all (HA.out.stay HBL.out))).mono ?_; rintro e w3 ⟨rfl, hb⟩; rw [LA.out]; have HBN := Aside0.mk (below_then HBL.out HBL.out.size hb); have HX3 := Aside0.mk (blk_below HX2.out hb); have HY3 := Aside0.mk (blk_below HY2.out hb); obtain ⟨r0, r1, r2, -, -, -⟩ := row3 HY3.out; clear hb HBL; have HBL := HBN; clear HBN))
            | (have hg := HX1; clear hg; go_at_call 16; go_must (refine (refSound_calls B c' b _ (LvS.all (HB.out.stay HBL.out))).mono ?_; rintro e w2 ⟨rfl, hb⟩; rw [SB.out]; have HBN := Aside0.mk (below_then HBL.out HBL.out.size hb); have HX2 := Aside0.mk (blk_below HX1.out hb); have HY2 := Aside0.mk (blk_below HY1.out hb); obtain ⟨q0, q1, q2, -, -, -⟩ := row3 HX2.out; clear hb HBL; have HBL := HBN; clear HBN))
            | (go_at_call 16; go_must (refine (refSound_calls A c a _ (LvS.all (HA.out.stay HBL.out))).mono ?_; rintro e w1 ⟨rfl, hb⟩; rw [SA.out]; have HBN := Aside0.mk (below_then HBL.out HBL.out.size hb); have HX1 := Aside0.mk (blk_below HX.out hb); have HY1 := Aside0.mk (blk_below HY.out hb); obtain ⟨p0, p1, p2, -, -, -⟩ := row3 HY1.out; clear hb HBL; have HBL := HBN; clear HBN)))
          go_ret
          exact ⟨rfl, HBL.out⟩
      · have LA := Aside0.mk hla
        clear hla
        go_wp2_with (first
          | (go_at_call 13; go_must (refine (awake_calls _).mono ?_; rintro e w9 ⟨rfl, hb⟩; have HBN := Aside0.mk (below_then HBL.out HBL.out.size hb); clear hb HBL; have HBL := HBN; clear HBN))
          | (go_at_call 19; go_must (refine (little_calls _ a (Nat.lt_succ_self _) A c _ (LvS.all (HA.out.stay HBL.out))).mono ?_; rintro e w3 ⟨rfl, hb⟩; rw [LA.out]; have HBN := Aside0.mk (below_then HBL.out HBL.out.size hb); have HX3 := Aside0.mk (blk_below HX2.out hb); have HY3 := Aside0.mk (blk_below HY2.out hb); obtain ⟨r0, r1, r2, -, -, -⟩ := row3 HY3.out; clear hb HBL; have HBL := HBN; clear HBN))
          | (have hg := HX1; clear hg; go_at_call 16; go_must (refine (refSound_calls B c' b _ (LvS.all (HB.out.stay HBL.out))).mono ?_; rintro e w2 ⟨rfl, hb⟩; rw [SB.out]; have HBN := Aside0.mk (below_then HBL.out HBL.out.size hb); have HX2 := Aside0.mk (blk_below HX1.out hb); have HY2 := Aside0.mk (blk_below HY1.out hb); obtain ⟨q0, q1, q2, -, -, -⟩ := row3 HX2.out; clear hb HBL; have HBL := HBN; clear HBN))
          | (go_at_call 16; go_must (refine (refSound_calls A c a _ (LvS.all (HA.out.stay HBL.out))).mono ?_; rintro e w1 ⟨rfl, hb⟩; rw [SA.out]; have HBN := Aside0.mk (below_then HBL.out HBL.out.size hb); have HX1 := Aside0.mk (blk_below HX.out hb); have HY1 := Aside0.mk (blk_below HY.out hb); obtain ⟨p0, p1, p2, -, -, -⟩ := row3 HY1.out; clear hb HBL; have HBL := HBN; clear HBN)))
        go_ret
        exact ⟨rfl, HBL.out⟩
    · have SB := Aside0.mk hsb
      clear hsb
      go_wp2_with (first
        | (go_at_call 13; go_must (refine (awake_calls _).mono ?_; rintro e w9 ⟨rfl, hb⟩; have HBN := Aside0.mk (below_then HBL.out HBL.out.size hb); clear hb HBL; have HBL := HBN; clear HBN))
        | (have hg := HX1; clear hg; go_at_call 16; go_must (refine (refSound_calls B c' b _ (LvS.all (HB.out.stay HBL.out))).mono ?_; rintro e w2 ⟨rfl, hb⟩; rw [SB.out]; have HBN := Aside0.mk (below_then HBL.out HBL.out.size hb); have HX2 := Aside0.mk (blk_below HX1.out hb); have HY2 := Aside0.mk (blk_below HY1.out hb); obtain ⟨q0, q1, q2, -, -, -⟩ := row3 HX2.out; clear hb HBL; have HBL := HBN; clear HBN))
        | (go_at_call 16; go_must (refine (refSound_calls A c a _ (LvS.all (HA.out.stay HBL.out))).mono ?_; rintro e w1 ⟨rfl, hb⟩; rw [SA.out]; have HBN := Aside0.mk (below_then HBL.out HBL.out.size hb); have HX1 := Aside0.mk (blk_below HX.out hb); have HY1 := Aside0.mk (blk_below HY.out hb); obtain ⟨p0, p1, p2, -, -, -⟩ := row3 HY1.out; clear hb HBL; have HBL := HBN; clear HBN)))
      go_ret
      exact ⟨rfl, HBL.out⟩
  · have SA := Aside0.mk hsa
    clear hsa
    go_wp2_with (first
      | (go_at_call 13; go_must (refine (awake_calls _).mono ?_; rintro e w9 ⟨rfl, hb⟩; have HBN := Aside0.mk (below_then HBL.out HBL.out.size hb); clear hb HBL; have HBL := HBN; clear HBN))
      | (go_at_call 16; go_must (refine (refSound_calls A c a _ (LvS.all (HA.out.stay HBL.out))).mono ?_; rintro e w1 ⟨rfl, hb⟩; rw [SA.out]; have HBN := Aside0.mk (below_then HBL.out HBL.out.size hb); have HX1 := Aside0.mk (blk_below HX.out hb); have HY1 := Aside0.mk (blk_below HY.out hb); obtain ⟨p0, p1, p2, -, -, -⟩ := row3 HY1.out; clear hb HBL; have HBL := HBN; clear HBN)))
    go_ret
    exact ⟨rfl, HBL.out⟩
end Go.Proofs.Ytjlhbaohippidaa
