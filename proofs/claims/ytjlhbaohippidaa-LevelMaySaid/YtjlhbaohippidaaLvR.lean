/-
  The walk of the reference's sound: arity.
-/
import Derived.Test.YtjlhbaohippidaaNf
namespace Go.Proofs.Ytjlhbaohippidaa
open Go.RowKit Go.Proofs.YtjlhbaohippidaaW.PrintWords Go.RegionInvYtjlhbaohippidaa

set_option maxHeartbeats 2000000 in
theorem arity_calls (k : Int) (w : World) : Calls Try.prog 49 #[.int .i64 k] w fun e w' => e = .returned (.int .i64 (arityP k)) ∧ w' = w := by
  go_enter Try.func49, Try.ntmps49
  by_cases h1 : k = 1
  · have H := Aside0.mk (arity_12 (.inl h1))
    have e1 : (k == 1) = true := by simp [h1]
    clear h1
    go_wp2
    go_ret
    exact ⟨by rw [H.out]; rfl, rfl⟩
  · have e1 : (k == 1) = false := by simp [h1]
    by_cases h2 : k = 2
    · have H := Aside0.mk (arity_12 (.inr h2))
      have e2 : (k == 2) = true := by simp [h2]
      clear h1 h2
      go_wp2
      go_ret
      exact ⟨by rw [H.out]; rfl, rfl⟩
    · have e2 : (k == 2) = false := by simp [h2]
      by_cases h3 : k = 3
      · have H := Aside0.mk (show arityP k = 1 by rw [h3]; decide)
        have e3 : (k == 3) = true := by simp [h3]
        clear h1 h2 h3
        go_wp2
        go_ret
        exact ⟨by rw [H.out]; rfl, rfl⟩
      · have e3 : (k == 3) = false := by simp [h3]
        by_cases h4 : k = 4
        · have H := Aside0.mk (show arityP k = 2 by rw [h4]; decide)
          have e4 : (k == 4) = true := by simp [h4]
          clear h1 h2 h3 h4
          go_wp2
          go_ret
          exact ⟨by rw [H.out]; rfl, rfl⟩
        · have H := Aside0.mk (arity_no h1 h2 h3 h4)
          have e4 : (k == 4) = false := by simp [h4]
          clear h1 h2 h3 h4
          go_wp2
          go_ret
          exact ⟨by rw [H.out]; rfl, rfl⟩


end Go.Proofs.Ytjlhbaohippidaa
