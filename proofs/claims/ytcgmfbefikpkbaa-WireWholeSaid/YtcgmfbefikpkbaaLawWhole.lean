/-
  WireWhole: a thing that has all bytes: the walk.
-/
import Derived.Test.YtcgmfbefikpkbaaWireD
namespace Go.Proofs.Ytcgmfbefikpkbaa
open Go.RowKit Go.Proofs.YtcgmfbefikpkbaaW.PrintWords Go.RegionInvYtcgmfbefikpkbaa

set_option maxHeartbeats 4000000 in
theorem whole_calls (A : Option Addr) (n c : Nat) (xs : List Int) (w : World) (hr : ReadsInt w .u8 A n xs) (hc : n ≤ c) (hB : Bytes xs) (hl : n ≤ 140737488355000) :
    Calls Try.prog 6 #[.slice A n c] w fun e w' => e = .returned (.bool true) ∧ Below w.heap.size w w' := by
  have HR := Aside0.mk hr
  have hn := hr.1
  have hu := takeB_used (xs := xs) (most := 5) hB
  rw [hn] at hu
  clear hr
  go_enter Try.func6, Try.ntmps6
  obtain ⟨bs, k, f, hT⟩ : ∃ bs k f, takeB xs 5 = (bs, k, f) := ⟨_, _, _, rfl⟩
  have HT := Aside0.mk hT
  by_cases h1 : f = 0
  · by_cases h2 : k = n
    · have HW := Aside0.mk (show wholeS xs = (bs, 0) by rw [wholeS_ok (by rw [hT]; exact h1) (by rw [hT, hn]; exact h2), hT])
      have e1 : (f == 0) = true := by simp [h1]
      have e2 : decide (k < (n : Int)) = false := by simp; omega
      have e3 : ((0 : Int) == f) = true := by simp [h1]
      have e4 : (f != 0) = false := by simp [h1]
      clear h1 h2 hu hn hT
      go_upto_region 5 with (first
        | (go_at_call 23; go_must (refine (wholeSmall_calls A n c xs _ HR.out hc hB hl).mono ?_; rintro e w1 ⟨v, rfl, ho, hb⟩; rw [HW.out] at ho ⊢; obtain ⟨A7, m7, c7, rfl, hm7, -, hr7⟩ := OwnB.reads ho; have HM7 := Aside0.mk hm7; have HR7 := Aside0.mk hr7; have HB7 := Aside0.mk hb; clear ho hb hr7 hm7))
        | (go_at_call 20; go_must (refine (refTakeBytes_calls A n c xs 5 _ (HR.out.below HB7.out) hc hB hl (by decide) (by decide)).mono ?_; rintro e w2 ⟨v, rfl, ho, hb⟩; rw [HT.out] at ho ⊢; obtain ⟨A10, m10, c10, rfl, -, -, hr10⟩ := OwnB.reads ho; have HR10 := Aside0.mk hr10; have HR7b := Aside0.mk (HR7.out.below hb); have HB10 := Aside0.mk (below_then HB7.out HB7.out.size hb); clear ho hb hr10)))
      have h7 := string_of_reads Try.underlying22 Try.underlying5 Try.underlying9 (c := c7) HR7b.out
      have h10 := string_of_reads Try.underlying22 Try.underlying5 Try.underlying9 (c := c10) HR10.out
      go_wp2_with (go_at_call 18; go_must (refine (awake_calls _).mono ?_; rintro e w6 ⟨rfl, hb6⟩; have HB6 := Aside0.mk (below_then HB10.out HB10.out.size hb6); clear hb6))
      go_ret
      exact ⟨rfl, HB6.out⟩
    · have HW := Aside0.mk (show wholeS xs = ([], 4) by rw [wholeS_form (by rw [hT]; exact h1) (by rw [hT, hn]; exact h2)])
      have e1 : (f == 0) = true := by simp [h1]
      rw [hT] at hu
      have e2 : decide (k < (n : Int)) = true := by have := hu.2.1; simp at this ⊢; omega
      clear h1 h2 hu hn hT
      go_upto_region 5 with (first
        | (go_at_call 23; go_must (refine (wholeSmall_calls A n c xs _ HR.out hc hB hl).mono ?_; rintro e w1 ⟨v, rfl, ho, hb⟩; rw [HW.out] at ho ⊢; obtain ⟨A7, m7, c7, rfl, hm7, -, hr7⟩ := OwnB.reads ho; have HM7 := Aside0.mk hm7; have HR7 := Aside0.mk hr7; have HB7 := Aside0.mk hb; clear ho hb hr7 hm7))
        | (go_at_call 20; go_must (refine (refTakeBytes_calls A n c xs 5 _ (HR.out.below HB7.out) hc hB hl (by decide) (by decide)).mono ?_; rintro e w2 ⟨v, rfl, ho, hb⟩; rw [HT.out] at ho ⊢; obtain ⟨A10, m10, c10, rfl, -, -, hr10⟩ := OwnB.reads ho; have HR10 := Aside0.mk hr10; have HR7b := Aside0.mk (HR7.out.below hb); have HB10 := Aside0.mk (below_then HB7.out HB7.out.size hb); clear ho hb hr10)))
      have e5 : ((m7 : Int) == 0) = true := by rw [HM7.out]; rfl
      go_wp2_with (go_at_call 18; go_must (refine (awake_calls _).mono ?_; rintro e w6 ⟨rfl, hb6⟩; have HB6 := Aside0.mk (below_then HB10.out HB10.out.size hb6); clear hb6))
      go_ret
      exact ⟨rfl, HB6.out⟩
  · have HW := Aside0.mk (show wholeS xs = ([], f) by rw [wholeS_err (by rw [hT]; exact h1), hT])
    have e1 : (f == 0) = false := by simp [h1]
    have e3 : (f == f) = true := by simp
    have e4 : (f != 0) = true := by simp [h1]
    clear h1 hu hn hT
    go_upto_region 5 with (first
      | (go_at_call 23; go_must (refine (wholeSmall_calls A n c xs _ HR.out hc hB hl).mono ?_; rintro e w1 ⟨v, rfl, ho, hb⟩; rw [HW.out] at ho ⊢; obtain ⟨A7, m7, c7, rfl, hm7, -, hr7⟩ := OwnB.reads ho; have HM7 := Aside0.mk hm7; have HR7 := Aside0.mk hr7; have HB7 := Aside0.mk hb; clear ho hb hr7 hm7))
      | (go_at_call 20; go_must (refine (refTakeBytes_calls A n c xs 5 _ (HR.out.below HB7.out) hc hB hl (by decide) (by decide)).mono ?_; rintro e w2 ⟨v, rfl, ho, hb⟩; rw [HT.out] at ho ⊢; obtain ⟨A10, m10, c10, rfl, -, -, hr10⟩ := OwnB.reads ho; have HR10 := Aside0.mk hr10; have HR7b := Aside0.mk (HR7.out.below hb); have HB10 := Aside0.mk (below_then HB7.out HB7.out.size hb); clear ho hb hr10)))
    have e5 : ((m7 : Int) == 0) = true := by rw [HM7.out]; rfl
    go_wp2_with (go_at_call 18; go_must (refine (awake_calls _).mono ?_; rintro e w6 ⟨rfl, hb6⟩; have HB6 := Aside0.mk (below_then HB10.out HB10.out.size hb6); clear hb6))
    go_ret
    exact ⟨rfl, HB6.out⟩
end Go.Proofs.Ytcgmfbefikpkbaa
