/-
  The walks of Whole over 'small'.
-/
import Derived.Test.YtcgmfbefikpkbaaWireC
namespace Go.Proofs.Ytcgmfbefikpkbaa
open Go.RowKit Go.Proofs.YtcgmfbefikpkbaaW.PrintWords Go.RegionInvYtcgmfbefikpkbaa

set_option maxHeartbeats 2000000 in
theorem small_calls (A : Option Addr) (n c : Nat) (xs : List Int) (w : World) (hr : ReadsInt w .u8 A n xs) (hc : n ≤ c) (hB : Bytes xs) (hl : n ≤ 140737488355000) :
    Calls Try.prog 24 #[.slice A n c] w fun e w' => ∃ v, e = .returned (.tuple #[v, .int .i64 (takeB xs 5).2.1, .int .i64 (takeB xs 5).2.2]) ∧ OwnB w' w.heap.size v (takeB xs 5).1 ∧ Below w.heap.size w w' := by
  have HR := Aside0.mk hr
  clear hr
  go_enter Try.func24, Try.ntmps24
  go_wp2_with (go_at_call 19; go_must (refine (takeBytes_calls A n c xs 5 _ HR.out hc hB hl (by decide) (by decide)).mono ?_; rintro e w1 ⟨v, rfl, ho, hb⟩; have HO := Aside0.mk ho; have HB := Aside0.mk hb; clear ho hb))
  go_ret3
  exact ⟨v, rfl, HO.out, HB.out⟩

/-- What Whole tells of small. -/
def wholeS (xs : List Int) : List Int × Int :=
  let t := takeB xs 5
  if t.2.2 ≠ 0 then ([], t.2.2) else if t.2.1 ≠ xs.length then ([], 4) else (t.1, 0)

theorem wholeS_err {xs : List Int} (h : (takeB xs 5).2.2 ≠ 0) : wholeS xs = ([], (takeB xs 5).2.2) := by unfold wholeS; simp only [if_pos h]
theorem wholeS_form {xs : List Int} (h : (takeB xs 5).2.2 = 0) (h2 : (takeB xs 5).2.1 ≠ xs.length) : wholeS xs = ([], 4) := by unfold wholeS; simp only [if_neg (show ¬ (takeB xs 5).2.2 ≠ 0 by omega), if_pos h2]
theorem wholeS_ok {xs : List Int} (h : (takeB xs 5).2.2 = 0) (h2 : (takeB xs 5).2.1 = xs.length) : wholeS xs = ((takeB xs 5).1, 0) := by unfold wholeS; simp only [if_neg (show ¬ (takeB xs 5).2.2 ≠ 0 by omega), if_neg (show ¬ (takeB xs 5).2.1 ≠ xs.length by omega)]
theorem notNil_take (W : World) : (binOp .eql 40 (.func (.func 24) #[] #[]) .nilFunc).run Try.prog W = .ok (.bool false) W := by kernel_rfl

set_option maxHeartbeats 2000000 in
theorem wholeSmall_calls (A : Option Addr) (n c : Nat) (xs : List Int) (w : World) (hr : ReadsInt w .u8 A n xs) (hc : n ≤ c) (hB : Bytes xs) (hl : n ≤ 140737488355000) :
    Calls Try.prog 23 #[.slice A n c, .func (.func 24) #[] #[]] w fun e w' => ∃ v, e = .returned (.tuple #[v, .int .i64 (wholeS xs).2]) ∧ OwnB w' w.heap.size v (wholeS xs).1 ∧ Below w.heap.size w w' := by
  have HR := Aside0.mk hr
  have hn := hr.1
  have hnil := notNil_take
  clear hr
  go_enter Try.func23, Try.ntmps23
  by_cases h1 : (takeB xs 5).2.2 = 0
  · have e1 : ((takeB xs 5).2.2 != 0) = false := by simp [h1]
    by_cases h2 : (takeB xs 5).2.1 = xs.length
    · have HE := Aside0.mk (wholeS_ok h1 h2)
      have e2 : ((takeB xs 5).2.1 != (n : Int)) = false := by rw [h2, hn]; simp
      clear h1 h2 hn
      go_wp2_with (go_at_call 24; go_must (refine (small_calls A n c xs _ HR.out hc hB hl).mono ?_; rintro e w1 ⟨v, rfl, ho, hb⟩; have HO := Aside0.mk ho; have HB := Aside0.mk hb; clear ho hb))
      go_ret2
      exact ⟨v, by rw [HE.out]; rfl, by rw [HE.out]; exact HO.out, HB.out⟩
    · have HE := Aside0.mk (wholeS_form h1 h2)
      have e2 : ((takeB xs 5).2.1 != (n : Int)) = true := by rw [hn] at h2; simp [h2]
      clear h1 h2 hn
      go_wp2_with (go_at_call 24; go_must (refine (small_calls A n c xs _ HR.out hc hB hl).mono ?_; rintro e w1 ⟨v, rfl, ho, hb⟩; have HO := Aside0.mk ho; have HB := Aside0.mk hb; clear ho hb))
      go_ret2
      exact ⟨.slice none 0 0, by rw [HE.out]; rfl, by rw [HE.out]; exact own_nil _ _ _ _, HB.out⟩
  · have e1 : ((takeB xs 5).2.2 != 0) = true := by simp [h1]
    have HE := Aside0.mk (wholeS_err h1)
    clear h1 hn
    go_wp2_with (go_at_call 24; go_must (refine (small_calls A n c xs _ HR.out hc hB hl).mono ?_; rintro e w1 ⟨v, rfl, ho, hb⟩; have HO := Aside0.mk ho; have HB := Aside0.mk hb; clear ho hb))
    go_ret2
    exact ⟨.slice none 0 0, by rw [HE.out]; rfl, by rw [HE.out]; exact own_nil _ _ _ _, HB.out⟩
end Go.Proofs.Ytcgmfbefikpkbaa
