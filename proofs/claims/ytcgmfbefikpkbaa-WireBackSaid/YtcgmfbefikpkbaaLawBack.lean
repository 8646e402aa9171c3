/-
  WireBack: one way alone: what is put is taken, cut off it is short, what is taken is put as the same bytes: the walk.
-/
import Derived.Test.YtcgmfbefikpkbaaWireBR
import Derived.Test.YtcgmfbefikpkbaaWMore
namespace Go.Proofs.Ytcgmfbefikpkbaa
open Go.RowKit Go.Proofs.YtcgmfbefikpkbaaW.PrintWords Go.RegionInvYtcgmfbefikpkbaa Go.Proofs.YtcgmfbefikpkbaaW.PrintMore

set_option maxRecDepth 100000 in
set_option maxHeartbeats 4000000 in
theorem back_calls (A : Option Addr) (n c : Nat) (xs : List Int) (N I : Int) (w : World) (hr : ReadsInt w .u8 A n xs) (hc : n ≤ c) (hB : Bytes xs) (hl : n ≤ 140737488351232) (h0N : 0 ≤ N) (h1N : N ≤ 18446744073709551615) (h0I : -9223372036854775808 ≤ I) (h1I : I ≤ 9223372036854775807) :
    Calls Try.prog 4 #[.int .u64 N, .int .i64 I, .slice A n c] w fun e w' => e = .returned (.bool true) ∧ Below w.heap.size w w' := by
  have HR := Aside0.mk hr
  have hN : xs.length = n := hr.1
  have HN := Aside0.mk hN
  have hp := putN_len10 h1N
  have hp1 := putN_pos N
  clear hr hN
  go_enter Try.func4, Try.ntmps4
  go_upto_region 2 with (go_at_call 14; go_must (refine (put_calls none 0 0 [] N _ (reads_nil _ _) h0N h1N (by decide)).mono ?_; rintro e w1 ⟨v, rfl, ho, hb⟩; rw [List.nil_append] at ho; obtain ⟨A1, m1, c1, rfl, hm1, hc1, hr1⟩ := OwnB.reads ho; have HM1 := Aside0.mk hm1; have hm1' : m1 ≤ 10 := (by omega); have HR1 := Aside0.mk hr1; have HB1 := Aside0.mk hb; have HC1 := Aside0.mk hc1; clear ho hb hr1 hm1))
  have HRw := Aside0.mk (HR.out.below HB1.out)
  go_upto_region 3 with (first
    | ((with_reducible refine gate_builtin (b := .append) (xs := #[.tmp 24, .tmp 25]) rfl ?_); at_builtin; go_must (refine print_append_row (w0 := w1) w1.heap.size rfl (.tmp 24) (.tmp 25) 22 5 .u8 1 rfl Try.underlying22 infoU8 (by decide) _ [] (putN N) A1 m1 c1 rfl rfl (own_empty w1 _ _ (Nat.le_refl _)) (HR1.out.below ((Below.refl _ _).alloc (Nat.le_refl _) _)) ((Below.refl _ _).alloc (Nat.le_refl _) _) (by simp) (by simp; omega) ?_; intro v2 w2 ho hb _ _; have HO2 := Aside0.mk ho; have HB2 := Aside0.mk hb; clear ho hb))
    | ((with_reducible refine gate_builtin (b := .append) (xs := #[.tmp 26, .tmp 27]) rfl ?_); at_builtin; go_must (refine print_append_row (w0 := w1) w1.heap.size rfl (.tmp 26) (.tmp 27) 22 5 .u8 1 rfl Try.underlying22 infoU8 (by decide) v2 ([] ++ putN N) xs A n c rfl rfl HO2.out (HRw.out.below HB2.out) HB2.out HB2.out.size (by simp; omega) ?_; intro v3 w3 ho hb _ _; rw [List.nil_append] at ho; obtain ⟨A3, m3, c3, rfl, hm3, _, hr3⟩ := OwnB.reads ho; have HM3 := Aside0.mk hm3; have hm3' : m3 ≤ 140737488351300 := (by have := HN.out; rw [hm3, List.length_append]; omega); have HR3 := Aside0.mk hr3; have HB3 := Aside0.mk hb; clear ho hb hr3 hm3))
    | (go_at_call 10; go_must (refine (take_calls A3 m3 c3 (putN N ++ xs) _ HR3.out ((putN_bytes10 h1N h0N).append hB) (by omega)).mono ?_; rintro e w' ⟨rfl, hw⟩; obtain rfl : w3 = w' := hw.symm; rw [take_put xs h0N h1N])))
  clear HO2 HB2
  have HB13 := Aside0.mk (below_then HB1.out HB1.out.size HB3.out)
  have HRx := Aside0.mk (HR1.out.below HB3.out)
  have HRb := Aside0.mk (HR.out.below HB13.out)
  clear HR1 HRw HR3 HB3
  have hz := zig_range h0I h1I
  go_upto_region 4 with (first
    | (go_at_call 16; go_must (refine (putInt_calls none 0 0 [] I _ (reads_nil _ _) h0I h1I (by decide)).mono ?_; rintro e w4 ⟨v4, rfl, ho, hb⟩; rw [List.nil_append] at ho; obtain ⟨A4, m4, c4, rfl, hm4, _, hr4⟩ := OwnB.reads ho; have hm4' : m4 ≤ 10 := (by have := putN_len10 hz.2; omega); have HR4 := Aside0.mk hr4; have HB4 := Aside0.mk hb; clear ho hb hr4 hm4))
    | (go_at_call 12; go_must (refine (takeInt_calls A4 m4 c4 (putN (zig I)) _ HR4.out (putN_bytes10 hz.2 hz.1) (by omega)).mono ?_; rintro e w' ⟨rfl, hw⟩; obtain rfl : w4 = w' := hw.symm; have ht := take_put [] hz.1 hz.2; rw [List.append_nil] at ht; rw [ht]; simp only [zag_zig]; clear ht)))
  have HB14 := Aside0.mk (below_then HB13.out HB13.out.size HB4.out)
  have HRx4 := Aside0.mk (HRx.out.below HB4.out)
  have HRb4 := Aside0.mk (HRb.out.below HB4.out)
  clear HRx HRb HB13 HB4 HB1 HR4
  have e1 : (((putN N).length : Int) != (m1 : Int)) = false := by rw [← HM1.out]; simp
  have e2 := HC1.out
  go_wp2
  go_loop [64] (fun v => ∃ k : Nat, v = .int .i64 k ∧ k ≤ m1) (fun v => m1 - (intOf v).toNat)
  case atStart => exact ⟨0, rfl, Nat.zero_le _⟩
  case round =>
    clear e1
    obtain ⟨k, rfl, hk⟩ := hrel
    by_cases hlt : k < m1
    · have hcut : ∀ W, (Instr.slice 22 (.slice A1 m1 c1) none (some (.int .i64 (k : Int))) none).run Try.prog W = .ok (.slice A1 k c1) W := fun W => by
        have h := run_cut_to (A := A1) (n := m1) (c := c1) W (k : Int) (by omega) (by omega)
        rwa [Int.toNat_natCast] at h
      have hk2 : k ≤ m1 := by omega
      go_wp2_with (go_at_call 10; go_must (refine (take_calls A1 k c1 ((putN N).take k) _ (HRx4.out.take_ k hk2) ((putN_bytes10 h1N h0N).take k) (by omega)).mono ?_; rintro e w' ⟨rfl, hw⟩; obtain rfl : w4 = w' := hw.symm; rw [take_cut h0N h1N k (by rw [← HM1.out]; exact hlt)]))
      go_round
      case rel => exact ⟨k + 1, by go_num, by omega⟩
      case measure => simp [intOf]; omega
    · have hlt' : decide (k < m1) = false := by simpa using hlt
      go_upto_region 14 with (go_at_call 10; go_must (refine (take_calls A n c xs _ HRb4.out hB (by omega)).mono ?_; rintro e w' ⟨rfl, hw⟩; obtain rfl : w4 = w' := hw.symm))
      by_cases hE : (takeN xs).2.2 = 0
      · refine wbok_region w4 A n c xs HRb4.out hc hB (by rw [← hE]) ?_
        intro w5 u88 O88 hb5 _ _
        have HB5 := Aside0.mk (below_then HB14.out HB14.out.size hb5)
        clear hb5
        go_wp2_with (go_at_call 18; go_must (refine (awake_calls _).mono ?_; rintro e w6 ⟨rfl, hb6⟩; have HB6 := Aside0.mk (below_then HB5.out HB5.out.size hb6); clear hb6))
        go_ret
        exact ⟨rfl, HB6.out⟩
      · refine wbno_region w4 A n c xs HRb4.out hc hB hE ?_
        intro w5 hb5
        have HB5 := Aside0.mk (below_then HB14.out HB14.out.size hb5)
        clear hb5
        go_wp2_with (go_at_call 18; go_must (refine (awake_calls _).mono ?_; rintro e w6 ⟨rfl, hb6⟩; have HB6 := Aside0.mk (below_then HB5.out HB5.out.size hb6); clear hb6))
        go_ret
        exact ⟨rfl, HB6.out⟩
end Go.Proofs.Ytcgmfbefikpkbaa
