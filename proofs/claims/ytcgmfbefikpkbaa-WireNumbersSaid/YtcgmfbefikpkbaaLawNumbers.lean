/-
  WireNumbers: any bytes as a number, any number as bytes: the walk.
-/
import Derived.Test.YtcgmfbefikpkbaaWireNR
namespace Go.Proofs.Ytcgmfbefikpkbaa
open Go.RowKit Go.Proofs.YtcgmfbefikpkbaaW.PrintWords Go.RegionInvYtcgmfbefikpkbaa

theorem takeN_err {xs : List Int} (h : (takeN xs).2.2 ≠ 0) : zag (takeN xs).1 = 0 := by
  by_cases h1 : lead xs = xs.length
  · rw [takeN_short h1]; decide
  · by_cases hb : badN xs
    · rw [takeN_bad h1 hb]; decide
    · rw [takeN_ok h1 hb] at h; exact absurd rfl h

set_option maxRecDepth 100000 in
set_option maxHeartbeats 4000000 in
theorem numbers_calls (A : Option Addr) (n c : Nat) (xs : List Int) (N I : Int) (w : World) (hr : ReadsInt w .u8 A n xs) (hB : Bytes xs) (hl : n ≤ 140737488351232) (h0N : 0 ≤ N) (h1N : N ≤ 18446744073709551615) (h0I : -9223372036854775808 ≤ I) (h1I : I ≤ 9223372036854775807) :
    Calls Try.prog 3 #[.slice A n c, .int .u64 N, .int .i64 I] w fun e w' => e = .returned (.bool true) ∧ Below w.heap.size w w' := by
  have HR := Aside0.mk hr
  have hl2 : xs.length ≤ 140737488355000 := by have := hr.1; omega
  clear hr
  go_enter Try.func3, Try.ntmps3
  go_upto_region 5 with (first
    | (go_at_call 10; go_must (refine (take_calls _ _ _ xs _ HR.out hB hl).mono ?_; rintro e w' ⟨rfl, hw⟩; obtain rfl : w = w' := hw.symm))
    | (go_at_call 11; go_must (refine (refTake_calls _ _ _ xs _ HR.out hB hl).mono ?_; rintro e w' ⟨rfl, hw⟩; obtain rfl : w = w' := hw.symm))
    | (go_at_call 12; go_must (refine (takeInt_calls _ _ _ xs _ HR.out hB hl).mono ?_; rintro e w' ⟨rfl, hw⟩; obtain rfl : w = w' := hw.symm))
    | (go_at_call 13; go_must (refine (refTakeInt_calls _ _ _ xs _ HR.out hB hl).mono ?_; rintro e w' ⟨rfl, hw⟩; obtain rfl : w = w' := hw.symm)))
  by_cases hE : (takeN xs).2.2 = 0
  · refine wp_region_inv (ops := wnok_ops.toArray) (by kernel_rfl) w.heap.size wnok_C (wnok_F w A n c xs N I) (Nat.le_refl _) (by rfl) (by kernel_rfl)
      (wnok_obs w.drew A n c xs N I HR.out hl hl2 h0N h1N h0I h1I hE _ _ rfl rfl rfl rfl rfl rfl rfl rfl rfl rfl rfl rfl rfl rfl rfl) ?_
    intro a w' O hd _ hb hf _
    have h6 : a.tmps.getD 6 undef = .bool true := (hf 69 _ 6 rfl rfl (by decide +kernel)).1
    simp only [Exit.then]
    go_wp2
    refine bodyPost_ret (results_tmp rfl _ _ _) hd ⟨?_, ?_⟩
    · rw [h6]
    · exact ⟨hb.os, hb.tape, hb.output, hb.size, hb.block⟩
  · refine wp_region_inv (ops := wnno_ops.toArray) (by kernel_rfl) w.heap.size wnno_C (wnno_F w A n c xs N I) (Nat.le_refl _) (by rfl) (by kernel_rfl)
      (wnno_obs w.drew A n c xs N I HR.out hl hl2 h0N h1N h0I h1I hE (takeN_err hE) _ _ rfl rfl rfl rfl rfl rfl rfl rfl rfl rfl rfl rfl rfl rfl rfl) ?_
    intro a w' O hd _ hb hf _
    have h6 : a.tmps.getD 6 undef = .bool true := (hf 69 _ 6 rfl rfl (by decide +kernel)).1
    simp only [Exit.then]
    go_wp2
    refine bodyPost_ret (results_tmp rfl _ _ _) hd ⟨?_, ?_⟩
    · rw [h6]
    · exact ⟨hb.os, hb.tape, hb.output, hb.size, hb.block⟩
end Go.Proofs.Ytcgmfbefikpkbaa
