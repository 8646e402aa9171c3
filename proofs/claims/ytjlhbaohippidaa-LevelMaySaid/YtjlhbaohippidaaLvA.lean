/-
  The walks of levels' nodes: kids, arity, right.
-/
import Derived.Test.YtjlhbaohippidaaProg
import Derived.Test.YtjlhbaohippidaaLv
import Derived.Test.YtjlhbaohippidaaOps
import Derived.Deep.QuietTactic
import Derived.BigQuiet
import Derived.Deep.DeepMust
namespace Go.Proofs.Ytjlhbaohippidaa
open Go.RowKit Go.Proofs.YtjlhbaohippidaaW.PrintWords Go.RegionInvYtjlhbaohippidaa

def arityP (k : Int) : Int := if k = 1 ∨ k = 2 then 0 else if k = 3 then 1 else if k = 4 then 2 else -1
theorem arity_12 {k : Int} (h : k = 1 ∨ k = 2) : arityP k = 0 := by unfold arityP; rw [if_pos h]
theorem arity_3 : arityP 3 = 1 := by decide
theorem arity_4 : arityP 4 = 2 := by decide
theorem arity_no {k : Int} (h1 : k ≠ 1) (h2 : k ≠ 2) (h3 : k ≠ 3) (h4 : k ≠ 4) : arityP k = -1 := by unfold arityP; rw [if_neg (by omega), if_neg h3, if_neg h4]

set_option maxHeartbeats 2000000 in
theorem kids_calls (k : Int) (w : World) : Calls Try.prog 48 #[.int .i64 k] w fun e w' => e = .returned (.int .i64 (arityP k)) ∧ w' = w := by
  go_enter Try.func48, Try.ntmps48
  by_cases h1 : k = 1
  · have H := Aside0.mk (arity_12 (.inl h1))
    have e1 : (k == 1) = true := by simp [h1]
    clear h1
    go_wp2
    go_ret
    exact ⟨by rw [H.out]; rfl, rfl⟩
  · have e1 : (k == 1) = false := by simp [h1]
    by_cases h2 : k = 2
    · have H := Aside0.mk (arity_12 (.inr h2))
      have e2 : (k == 2) = true := by simp [h2]
      clear h1 h2
      go_wp2
      go_ret
      exact ⟨by rw [H.out]; rfl, rfl⟩
    · have e2 : (k == 2) = false := by simp [h2]
      by_cases h3 : k = 3
      · have H := Aside0.mk (show arityP k = 1 by rw [h3]; decide)
        have e3 : (k == 3) = true := by simp [h3]
        clear h1 h2 h3
        go_wp2
        go_ret
        exact ⟨by rw [H.out]; rfl, rfl⟩
      · have e3 : (k == 3) = false := by simp [h3]
        by_cases h4 : k = 4
        · have H := Aside0.mk (show arityP k = 2 by rw [h4]; decide)
          have e4 : (k == 4) = true := by simp [h4]
          clear h1 h2 h3 h4
          go_wp2
          go_ret
          exact ⟨by rw [H.out]; rfl, rfl⟩
        · have H := Aside0.mk (arity_no h1 h2 h3 h4)
          have e4 : (k == 4) = false := by simp [h4]
          clear h1 h2 h3 h4
          go_wp2
          go_ret
          exact ⟨by rw [H.out]; rfl, rfl⟩

def rightP (l : Lv) (most mostV : Int) : Bool :=
  if (l.kids.length : Int) ≠ arityP l.kind then false else
  if l.kind = 1 then decide (0 ≤ l.num ∧ l.num ≤ most) else if l.kind = 3 then decide (1 ≤ l.num ∧ l.num ≤ most) else if l.kind = 2 then decide (0 ≤ l.num ∧ l.num ≤ mostV) else true

theorem right_bad {k n : Int} {ks : List Lv} {most mostV : Int} (h : (ks.length : Int) ≠ arityP k) : rightP (.mk k n ks) most mostV = false := by unfold rightP; exact if_pos h
theorem right_num {n : Int} {ks : List Lv} {most mostV : Int} (h : (ks.length : Int) = arityP 1) : rightP (.mk 1 n ks) most mostV = decide (0 ≤ n ∧ n ≤ most) := by
  show (if (ks.length : Int) ≠ arityP 1 then false else decide (0 ≤ n ∧ n ≤ most)) = _
  exact if_neg (fun x => x h)
theorem right_succ {n : Int} {ks : List Lv} {most mostV : Int} (h : (ks.length : Int) = arityP 3) : rightP (.mk 3 n ks) most mostV = decide (1 ≤ n ∧ n ≤ most) := by
  show (if (ks.length : Int) ≠ arityP 3 then false else decide (1 ≤ n ∧ n ≤ most)) = _
  exact if_neg (fun x => x h)
theorem right_var {n : Int} {ks : List Lv} {most mostV : Int} (h : (ks.length : Int) = arityP 2) : rightP (.mk 2 n ks) most mostV = decide (0 ≤ n ∧ n ≤ mostV) := by
  show (if (ks.length : Int) ≠ arityP 2 then false else decide (0 ≤ n ∧ n ≤ mostV)) = _
  exact if_neg (fun x => x h)
theorem right_else {k n : Int} {ks : List Lv} {most mostV : Int} (h : (ks.length : Int) = arityP k) (h1 : k ≠ 1) (h2 : k ≠ 2) (h3 : k ≠ 3) : rightP (.mk k n ks) most mostV = true := by
  unfold rightP
  exact (if_neg (fun x => x h)).trans ((if_neg h1).trans ((if_neg h3).trans (if_neg h2)))

set_option maxHeartbeats 2000000 in
theorem right_calls (A : Option Addr) (c : Nat) (l : Lv) (most mostV : Int) (w : World) (hc : l.kids.length ≤ 9223372036854775807) :
    Calls Try.prog 29 #[lvV A c l, .int .i64 most, .int .i64 mostV] w fun e w' => e = .returned (.bool (rightP l most mostV)) ∧ Below w.heap.size w w' := by
  obtain ⟨k, n, ks⟩ := l
  unfold lvV
  simp only [Lv.kind, Lv.num, Lv.kids] at hc ⊢
  obtain ⟨m, hm⟩ : ∃ m, m = ks.length := ⟨_, rfl⟩
  rw [← hm] at hc ⊢
  go_enter Try.func29, Try.ntmps29
  by_cases h0 : (m : Int) = arityP k
  · have e0 : ((m : Int) != arityP k) = false := by simp [h0]
    by_cases h1 : k = 1
    · have e1 : (k == 1) = true := by simp [h1]
      have H := Aside0.mk (show rightP (.mk k n ks) most mostV = decide (0 ≤ n ∧ n ≤ most) by rw [h1]; exact right_num (by rw [← hm, h0, h1]))
      clear h0 h1 hm
      by_cases q1 : 0 ≤ n
      · by_cases q2 : n ≤ most
        · go_wp2
          go_quiet ((go_at_call 48; exact Calls.quiet_of_same (kids_calls _ _)))
          go_wp2
          go_ret
          exact ⟨congrArg (fun b => Ending.returned (.bool b)) (H.out ▸ by first | exact (decide_eq_false (by omega)).symm | exact (decide_eq_true (by omega)).symm | exact decide_eq_decide.2 (by omega)), pw_below_drewN (below_alloc (Below.refl _ _) _) _⟩
        · go_wp2
          go_quiet ((go_at_call 48; exact Calls.quiet_of_same (kids_calls _ _)))
          go_wp2
          go_ret
          exact ⟨congrArg (fun b => Ending.returned (.bool b)) (H.out ▸ by first | exact (decide_eq_false (by omega)).symm | exact (decide_eq_true (by omega)).symm | exact decide_eq_decide.2 (by omega)), pw_below_drewN (below_alloc (Below.refl _ _) _) _⟩
      · go_wp2
        go_quiet ((go_at_call 48; exact Calls.quiet_of_same (kids_calls _ _)))
        go_wp2
        go_ret
        exact ⟨congrArg (fun b => Ending.returned (.bool b)) (H.out ▸ by first | exact (decide_eq_false (by omega)).symm | exact (decide_eq_true (by omega)).symm | exact decide_eq_decide.2 (by omega)), pw_below_drewN (below_alloc (Below.refl _ _) _) _⟩
    · have e1 : (k == 1) = false := by simp [h1]
      by_cases h3 : k = 3
      · have e3 : (k == 3) = true := by simp [h3]
        have H := Aside0.mk (show rightP (.mk k n ks) most mostV = decide (1 ≤ n ∧ n ≤ most) by rw [h3]; exact right_succ (by rw [← hm, h0, h3]))
        clear h0 h1 h3 hm
        by_cases q1 : 1 ≤ n
        · by_cases q2 : n ≤ most
          · go_wp2
            go_quiet ((go_at_call 48; exact Calls.quiet_of_same (kids_calls _ _)))
            go_wp2
            go_ret
            exact ⟨congrArg (fun b => Ending.returned (.bool b)) (H.out ▸ by first | exact (decide_eq_false (by omega)).symm | exact (decide_eq_true (by omega)).symm | exact decide_eq_decide.2 (by omega)), pw_below_drewN (below_alloc (Below.refl _ _) _) _⟩
          · go_wp2
            go_quiet ((go_at_call 48; exact Calls.quiet_of_same (kids_calls _ _)))
            go_wp2
            go_ret
            exact ⟨congrArg (fun b => Ending.returned (.bool b)) (H.out ▸ by first | exact (decide_eq_false (by omega)).symm | exact (decide_eq_true (by omega)).symm | exact decide_eq_decide.2 (by omega)), pw_below_drewN (below_alloc (Below.refl _ _) _) _⟩
        · go_wp2
          go_quiet ((go_at_call 48; exact Calls.quiet_of_same (kids_calls _ _)))
          go_wp2
          go_ret
          exact ⟨congrArg (fun b => Ending.returned (.bool b)) (H.out ▸ by first | exact (decide_eq_false (by omega)).symm | exact (decide_eq_true (by omega)).symm | exact decide_eq_decide.2 (by omega)), pw_below_drewN (below_alloc (Below.refl _ _) _) _⟩
      · have e3 : (k == 3) = false := by simp [h3]
        by_cases h2 : k = 2
        · have e2 : (k == 2) = true := by simp [h2]
          have H := Aside0.mk (show rightP (.mk k n ks) most mostV = decide (0 ≤ n ∧ n ≤ mostV) by rw [h2]; exact right_var (by rw [← hm, h0, h2]))
          clear h0 h1 h3 h2 hm
          by_cases q1 : 0 ≤ n
          · by_cases q2 : n ≤ mostV
            · go_wp2
              go_quiet ((go_at_call 48; exact Calls.quiet_of_same (kids_calls _ _)))
              go_wp2
              go_ret
              exact ⟨congrArg (fun b => Ending.returned (.bool b)) (H.out ▸ by first | exact (decide_eq_false (by omega)).symm | exact (decide_eq_true (by omega)).symm | exact decide_eq_decide.2 (by omega)), pw_below_drewN (below_alloc (Below.refl _ _) _) _⟩
            · go_wp2
              go_quiet ((go_at_call 48; exact Calls.quiet_of_same (kids_calls _ _)))
              go_wp2
              go_ret
              exact ⟨congrArg (fun b => Ending.returned (.bool b)) (H.out ▸ by first | exact (decide_eq_false (by omega)).symm | exact (decide_eq_true (by omega)).symm | exact decide_eq_decide.2 (by omega)), pw_below_drewN (below_alloc (Below.refl _ _) _) _⟩
          · go_wp2
            go_quiet ((go_at_call 48; exact Calls.quiet_of_same (kids_calls _ _)))
            go_wp2
            go_ret
            exact ⟨congrArg (fun b => Ending.returned (.bool b)) (H.out ▸ by first | exact (decide_eq_false (by omega)).symm | exact (decide_eq_true (by omega)).symm | exact decide_eq_decide.2 (by omega)), pw_below_drewN (below_alloc (Below.refl _ _) _) _⟩
        · have e2 : (k == 2) = false := by simp [h2]
          have H := Aside0.mk (right_else (n := n) (ks := ks) (most := most) (mostV := mostV) (by rw [← hm]; exact h0) h1 h2 h3)
          clear h0 h1 h2 h3 hm
          go_wp2
          go_quiet ((go_at_call 48; exact Calls.quiet_of_same (kids_calls _ _)))
          go_wp2
          go_ret
          exact ⟨by rw [H.out]; rfl, pw_below_drewN (below_alloc (Below.refl _ _) _) _⟩
  · have e0 : ((m : Int) != arityP k) = true := by simp [h0]
    have H := Aside0.mk (right_bad (n := n) (ks := ks) (most := most) (mostV := mostV) (by rw [← hm]; exact h0))
    clear h0 hm
    go_wp2
    go_quiet ((go_at_call 48; exact Calls.quiet_of_same (kids_calls _ _)))
    go_wp2
    go_ret
    exact ⟨by rw [H.out]; rfl, pw_below_drewN (below_alloc (Below.refl _ _) _) _⟩
end Go.Proofs.Ytjlhbaohippidaa
