/-
  The walks of bytes with their length.
-/
import Derived.Test.YtcgmfbefikpkbaaWireA
import Derived.Test.YtcgmfbefikpkbaaWireR
import Derived.Test.YtcgmfbefikpkbaaWMore
namespace Go.Proofs.Ytcgmfbefikpkbaa
open Go.RowKit Go.Proofs.YtcgmfbefikpkbaaW.PrintWords Go.RegionInvYtcgmfbefikpkbaa Go.Proofs.YtcgmfbefikpkbaaW.PrintMore

/-- b[k:e] -/
theorem run_cut_mid {A : Option Addr} {n c : Nat} (k e : Nat) (hke : k ≤ e) (hen : e ≤ n) (hc : n ≤ c) :
    ∃ A', (∀ W, (Instr.slice 22 (.slice A n c) (some (.int .i64 (k : Int))) (some (.int .i64 (e : Int))) none).run Try.prog W = .ok (.slice A' (e - k) (c - k)) W) ∧
      ∀ w xs, ReadsInt w .u8 A n xs → ReadsInt w .u8 A' (e - k) ((xs.drop k).take (e - k)) := by
  refine ⟨if c = k then A else A.map (·.add k), fun W => ?_, fun w xs hr => (hr.drop_ k (by omega) hc).take_ _ (by omega)⟩
  have hel : Try.prog.elem 22 = 5 := by kernel_rfl
  obtain ⟨i, hi, hz⟩ := Option.map_eq_some_iff.1 infoU8
  have hs : i.size = 1 := by injection hz with _ hz; injection hz
  rw [run_slice_lh W 22 A n c (by rw [hel]; exact Try.underlying22) .i64 .i64 k e (by omega) (by omega) (by omega), hel]
  simp [sizeOf, typeInfo, hi, hs, sliced, Result.andThen]
theorem reads_old {w w' : World} {k : IntKind} {A : Option Addr} {n base : Nat} {xs : List Int} (h : ReadsInt w k A n xs) (ho : ∀ i, i < n → ∃ ad, A = some ad ∧ ad.block < base) (hb : Below base w w') : ReadsInt w' k A n xs := by
  refine ⟨h.1, h.2.1, fun hn => ?_⟩
  obtain ⟨ad, e, hc⟩ := h.2.2 hn
  obtain ⟨ad', e', hlt⟩ := ho 0 hn
  rw [e] at e'
  obtain rfl := Option.some.inj e'
  refine ⟨ad, e, fun j hj => ?_⟩
  rw [← hc j hj]
  refine hb.cell ?_
  unfold Addr.add; split <;> exact hlt
theorem reads_blocks {w : World} {k : IntKind} {A : Option Addr} {n : Nat} {xs : List Int} (h : ReadsInt w k A n xs) : ∀ i, i < n → ∃ ad, A = some ad ∧ ad.block < w.heap.size := by
  intro i hi
  obtain ⟨ad, e, hc⟩ := h.2.2 (by omega)
  refine ⟨ad, e, ?_⟩
  have := World.block_lt_of_cell? w _ (hc 0 (by omega))
  unfold Addr.add at this; split at this <;> exact this
theorem ret_bytes {v : Value} {a a' b b' : Int} (h1 : a = a') (h2 : b = b') : Ending.returned (.tuple #[v, .int .i64 a, .int .i64 b]) = .returned (.tuple #[v, .int .i64 a', .int .i64 b']) := by rw [h1, h2]

set_option maxHeartbeats 2000000 in
theorem takeBytes_calls (A : Option Addr) (n c : Nat) (xs : List Int) (most : Int) (w : World) (hr : ReadsInt w .u8 A n xs) (hc : n ≤ c) (hB : Bytes xs) (hl : n ≤ 140737488355000) (hm0 : -9223372036854775808 ≤ most) (hm1 : most ≤ 9223372036854775807) :
    Calls Try.prog 19 #[.slice A n c, .int .i64 most] w fun e w' => ∃ v, e = .returned (.tuple #[v, .int .i64 (takeB xs most).2.1, .int .i64 (takeB xs most).2.2]) ∧ OwnB w' w.heap.size v (takeB xs most).1 ∧ Below w.heap.size w w' := by
  have HR := Aside0.mk hr
  have hxn := hr.1
  have HN := Aside0.mk hxn
  go_enter Try.func19, Try.ntmps19
  rcases takeN_cases hB with hT | hT | ⟨m, k, hT, hm, hk1, hk2⟩
  · have HE := Aside0.mk (takeB_err (most := most) hT (by decide))
    have HT := Aside0.mk hT
    clear hT hr hxn
    go_wp2_with (go_at_call 10; go_must (refine (take_calls _ _ _ xs _ HR.out hB hl).mono ?_; rintro e w' ⟨rfl, hw⟩; obtain rfl : w = w' := hw.symm; rw [HT.out]))
    go_ret3
    exact ⟨.slice none 0 0, by rw [HE.out]; rfl, by rw [HE.out]; exact own_nil _ _ _ _, Below.refl _ _⟩
  · have HE := Aside0.mk (takeB_err (most := most) hT (by decide))
    have HT := Aside0.mk hT
    clear hT hr hxn
    go_wp2_with (go_at_call 10; go_must (refine (take_calls _ _ _ xs _ HR.out hB hl).mono ?_; rintro e w' ⟨rfl, hw⟩; obtain rfl : w = w' := hw.symm; rw [HT.out]))
    go_ret3
    exact ⟨.slice none 0 0, by rw [HE.out]; rfl, by rw [HE.out]; exact own_nil _ _ _ _, Below.refl _ _⟩
  · have HT := Aside0.mk hT
    by_cases hlong : most < 0 ∨ most < m
    · have HE := Aside0.mk (takeB_long hT hlong)
      clear hT hr hxn
      rcases Int.lt_or_le most 0 with h0 | h0
      · clear hlong
        go_wp2_with (go_at_call 10; go_must (refine (take_calls _ _ _ xs _ HR.out hB hl).mono ?_; rintro e w' ⟨rfl, hw⟩; obtain rfl : w = w' := hw.symm; rw [HT.out]))
        go_ret3
        exact ⟨.slice none 0 0, by rw [HE.out]; rfl, by rw [HE.out]; exact own_nil _ _ _ _, Below.refl _ _⟩
      · have h1 : most < m := by omega
        clear hlong
        go_wp2_with (go_at_call 10; go_must (refine (take_calls _ _ _ xs _ HR.out hB hl).mono ?_; rintro e w' ⟨rfl, hw⟩; obtain rfl : w = w' := hw.symm; rw [HT.out]))
        go_ret3
        exact ⟨.slice none 0 0, by rw [HE.out]; rfl, by rw [HE.out]; exact own_nil _ _ _ _, Below.refl _ _⟩
    · have h0 : 0 ≤ most := by omega
      have h1 : (m : Int) ≤ most := by omega
      by_cases hs : (xs.length : Int) - k < m
      · have HE := Aside0.mk (takeB_short hT hlong hs)
        have hs2 : (n : Int) - k < m := by omega
        have hk3 : (k : Int) ≤ n := by omega
        clear hT hr hlong hs hxn
        go_wp2_with (go_at_call 10; go_must (refine (take_calls _ _ _ xs _ HR.out hB hl).mono ?_; rintro e w' ⟨rfl, hw⟩; obtain rfl : w = w' := hw.symm; rw [HT.out]))
        go_ret3
        exact ⟨.slice none 0 0, by rw [HE.out]; rfl, by rw [HE.out]; exact own_nil _ _ _ _, Below.refl _ _⟩
      · have HE := Aside0.mk (takeB_ok hT hlong hs)
        have hs2 : (m : Int) ≤ (n : Int) - k := by omega
        have hk3 : (k : Int) ≤ n := by omega
        obtain ⟨A', hcut, hrd⟩ := run_cut_mid (A := A) (n := n) (c := c) k (k + m) (by omega) (by omega) hc
        have HRD := Aside0.mk (hrd w xs HR.out)
        rw [show k + m - k = m by omega] at hcut HRD
        rw [Int.natCast_add] at hcut
        have hmn : m ≤ n := by omega
        clear hT hr hlong hs hrd hxn
        go_wp2_with (first
          | (go_at_call 10; go_must (refine (take_calls _ _ _ xs _ HR.out hB hl).mono ?_; rintro e w' ⟨rfl, hw⟩; obtain rfl : w = w' := hw.symm; rw [HT.out]))
          | (at_builtin; go_must (refine print_append_row (w0 := w) w.heap.size rfl (.const (.slice none 0 0)) (.tmp 45) 22 5 .u8 1 rfl Try.underlying22 infoU8 (by decide) (.slice none 0 0) [] ((xs.drop k).take m) A' m (c - k) rfl rfl (own_nil _ _ _ _) HRD.out (Below.refl _ _) (Nat.le_refl _) (by simp; omega) ?_; intro v1 w1 ho hb _ _; have HO := Aside0.mk ho; have HB := Aside0.mk hb; clear ho hb)))
        go_ret3
        exact ⟨v1, by rw [HE.out]; rfl, by rw [HE.out]; exact HO.out, HB.out⟩

set_option maxHeartbeats 2000000 in
theorem refTakeBytes_calls (A : Option Addr) (n c : Nat) (xs : List Int) (most : Int) (w : World) (hr : ReadsInt w .u8 A n xs) (hc : n ≤ c) (hB : Bytes xs) (hl : n ≤ 140737488355000) (hm0 : -9223372036854775808 ≤ most) (hm1 : most ≤ 9223372036854775807) :
    Calls Try.prog 20 #[.slice A n c, .int .i64 most] w fun e w' => ∃ v, e = .returned (.tuple #[v, .int .i64 (takeB xs most).2.1, .int .i64 (takeB xs most).2.2]) ∧ OwnB w' w.heap.size v (takeB xs most).1 ∧ Below w.heap.size w w' := by
  have HR := Aside0.mk hr
  have hxn := hr.1
  have HN := Aside0.mk hxn
  go_enter Try.func20, Try.ntmps20
  rcases takeN_cases hB with hT | hT | ⟨m, k, hT, hm, hk1, hk2⟩
  · have HE := Aside0.mk (takeB_err (most := most) hT (by decide))
    have HT := Aside0.mk hT
    clear hT hr hxn
    go_wp2_with (go_at_call 11; go_must (refine (refTake_calls _ _ _ xs _ HR.out hB hl).mono ?_; rintro e w' ⟨rfl, hw⟩; obtain rfl : w = w' := hw.symm; rw [HT.out]))
    go_ret3
    exact ⟨.slice none 0 0, by rw [HE.out]; rfl, by rw [HE.out]; exact own_nil _ _ _ _, Below.refl _ _⟩
  · have HE := Aside0.mk (takeB_err (most := most) hT (by decide))
    have HT := Aside0.mk hT
    clear hT hr hxn
    go_wp2_with (go_at_call 11; go_must (refine (refTake_calls _ _ _ xs _ HR.out hB hl).mono ?_; rintro e w' ⟨rfl, hw⟩; obtain rfl : w = w' := hw.symm; rw [HT.out]))
    go_ret3
    exact ⟨.slice none 0 0, by rw [HE.out]; rfl, by rw [HE.out]; exact own_nil _ _ _ _, Below.refl _ _⟩
  · have HT := Aside0.mk hT
    by_cases hlong : most < 0 ∨ most < m
    · have HE := Aside0.mk (takeB_long hT hlong)
      clear hT hr hxn
      rcases Int.lt_or_le most 0 with h0 | h0
      · clear hlong
        go_wp2_with (go_at_call 11; go_must (refine (refTake_calls _ _ _ xs _ HR.out hB hl).mono ?_; rintro e w' ⟨rfl, hw⟩; obtain rfl : w = w' := hw.symm; rw [HT.out]))
        go_ret3
        exact ⟨.slice none 0 0, by rw [HE.out]; rfl, by rw [HE.out]; exact own_nil _ _ _ _, Below.refl _ _⟩
      · have h1 : most < m := by omega
        clear hlong
        go_wp2_with (go_at_call 11; go_must (refine (refTake_calls _ _ _ xs _ HR.out hB hl).mono ?_; rintro e w' ⟨rfl, hw⟩; obtain rfl : w = w' := hw.symm; rw [HT.out]))
        go_ret3
        exact ⟨.slice none 0 0, by rw [HE.out]; rfl, by rw [HE.out]; exact own_nil _ _ _ _, Below.refl _ _⟩
    · have h0 : 0 ≤ most := by omega
      have h1 : (m : Int) ≤ most := by omega
      by_cases hs : (xs.length : Int) - k < m
      · have HE := Aside0.mk (takeB_short hT hlong hs)
        have hs2 : (n : Int) - k < m := by omega
        have hk3 : (k : Int) ≤ n := by omega
        clear hT hr hlong hs hxn
        go_wp2_with (go_at_call 11; go_must (refine (refTake_calls _ _ _ xs _ HR.out hB hl).mono ?_; rintro e w' ⟨rfl, hw⟩; obtain rfl : w = w' := hw.symm; rw [HT.out]))
        go_ret3
        exact ⟨.slice none 0 0, by rw [HE.out]; rfl, by rw [HE.out]; exact own_nil _ _ _ _, Below.refl _ _⟩
      · have HE := Aside0.mk (takeB_ok hT hlong hs)
        have hs2 : (m : Int) ≤ (n : Int) - k := by omega
        have hk3 : (k : Int) ≤ n := by omega
        obtain ⟨A', hcut, hrd⟩ := run_cut_mid (A := A) (n := n) (c := c) k (k + m) (by omega) (by omega) hc
        have HRD := Aside0.mk (hrd w xs HR.out)
        rw [show k + m - k = m by omega] at hcut HRD
        rw [Int.natCast_add] at hcut
        have hmn : m ≤ n := by omega
        clear hT hr hlong hs hrd hxn
        go_wp2_with (first
          | (go_at_call 11; go_must (refine (refTake_calls _ _ _ xs _ HR.out hB hl).mono ?_; rintro e w' ⟨rfl, hw⟩; obtain rfl : w = w' := hw.symm; rw [HT.out]))
          | (at_builtin; go_must (refine print_append_row (w0 := w) w.heap.size rfl (.const (.slice none 0 0)) (.tmp 43) 22 5 .u8 1 rfl Try.underlying22 infoU8 (by decide) (.slice none 0 0) [] ((xs.drop k).take m) A' m (c - k) rfl rfl (own_nil _ _ _ _) HRD.out (Below.refl _ _) (Nat.le_refl _) (by simp; omega) ?_; intro v1 w1 ho hb _ _; have HO := Aside0.mk ho; have HB := Aside0.mk hb; clear ho hb)))
        go_ret3
        exact ⟨v1, by rw [HE.out]; rfl, by rw [HE.out]; exact HO.out, HB.out⟩

end Go.Proofs.Ytcgmfbefikpkbaa
