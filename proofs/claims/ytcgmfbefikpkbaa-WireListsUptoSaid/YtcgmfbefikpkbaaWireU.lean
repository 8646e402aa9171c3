/-
  The walks of numbers as bytes: Put, PutInt, TakeInt, of the program.
-/
import Derived.Test.YtcgmfbefikpkbaaWireT
namespace Go.Proofs.Ytcgmfbefikpkbaa
open Go.RowKit Go.Proofs.YtcgmfbefikpkbaaW.PrintWords

set_option maxHeartbeats 1000000 in
theorem put_calls (A : Option Addr) (n c : Nat) (xs : List Int) (x : Int) (w : World) (hr : ReadsInt w .u8 A n xs) (h0 : 0 ≤ x) (h1 : x ≤ 18446744073709551615) (hl : n ≤ 140737488355000) :
    Calls Try.prog 14 #[.slice A n c, .int .u64 x] w fun e w' => ∃ v, e = .returned v ∧ OwnB w' w.heap.size v (xs ++ putN x) ∧ Below w.heap.size w w' := by
  have HR := Aside0.mk hr
  have HL := Aside0.mk hr.1
  have HP := Aside0.mk (putN_len10 h1)
  clear hr
  go_enter Try.func14, Try.ntmps14
  go_wp2_with (first
    | (at_builtin; go_must (refine print_append_row w.heap.size rfl (.const (.slice none 0 0)) (.tmp 6) 22 5 .u8 1 rfl Try.underlying22 infoU8 (by decide) (.slice none 0 0) [] xs A n c rfl rfl (own_nil _ _ _ _) HR.out (Below.refl _ _) (Nat.le_refl _) (by simp; omega) ?_; intro v1 w1 ho hb _ _; have HO := Aside0.mk ho; have HB := Aside0.mk hb; clear ho hb)))
  go_loopw [1, 5] (fun u v wr => ∃ (y : Int) (ys : List Int), u = .int .u64 y ∧ 0 ≤ y ∧ y ≤ 18446744073709551615 ∧ Aside0 (ys ++ putN y = xs ++ putN x) ∧ Aside0 (OwnB wr w.heap.size v ys) ∧ Aside0 (Below w.heap.size w wr)) (fun u _ _ => (intOf u).toNat)
  case atStart => exact ⟨x, xs, rfl, h0, h1, ⟨rfl⟩, ⟨by unfold OwnB; simpa using HO.out⟩, HB⟩
  case round =>
    clear HO HB
    obtain ⟨y, ys, rfl, hy0, hy1, HE, HO, HB⟩ := hrel
    have HN := Aside0.mk (show ys.length ≤ n + 10 by
      have h := congrArg List.length HE.out
      have h2 := HP.out
      have h3 := HL.out
      simp only [List.length_append] at h
      omega)
    by_cases hlt : 128 ≤ y
    · go_wp2_with (first
        | (at_builtin; go_must (refine print_append_num w.heap.size rfl (.tmp 12) (.tmp 16) 22 5 .u8 1 rfl Try.underlying22 infoU8 (by decide) u5 ys (Go.bits .or .u8 (y % 256) 128) rfl rfl HO.out HB.out HB.out.size (by have := HN.out; omega) ?_; intro v2 w2 ho hb _ _; have HO2 := Aside0.mk ho; have HB2 := Aside0.mk hb; clear ho hb)))
      go_roundw
      case rel => exact ⟨y / 128, ys ++ [Go.bits .or .u8 (y % 256) 128], rfl, by omega, by omega, ⟨by rw [← HE.out, putN_ge hlt, u8_or128_add (by omega) (by omega), show y % 256 % 128 = y % 128 by omega]; simp⟩, HO2, HB2⟩
      case measure => simp [intOf]; omega
    · go_wp2_with (first
        | (at_builtin; go_must (refine print_append_num w.heap.size rfl (.tmp 18) (.tmp 21) 22 5 .u8 1 rfl Try.underlying22 infoU8 (by decide) u5 ys y rfl rfl HO.out HB.out HB.out.size (by have := HN.out; omega) ?_; intro v2 w2 ho hb _ _; have HO2 := Aside0.mk ho; have HB2 := Aside0.mk hb; clear ho hb)))
      go_ret
      refine ⟨_, rfl, ?_, HB2.out⟩
      rw [← HE.out, putN_lt (show y < 128 by omega)]; exact HO2.out

set_option maxHeartbeats 1000000 in
theorem putInt_calls (A : Option Addr) (n c : Nat) (xs : List Int) (x : Int) (w : World) (hr : ReadsInt w .u8 A n xs) (h0 : -9223372036854775808 ≤ x) (h1 : x ≤ 9223372036854775807) (hl : n ≤ 140737488355000) :
    Calls Try.prog 16 #[.slice A n c, .int .i64 x] w fun e w' => ∃ v, e = .returned v ∧ OwnB w' w.heap.size v (xs ++ putN (zig x)) ∧ Below w.heap.size w w' := by
  have HR := Aside0.mk hr
  clear hr
  go_enter Try.func16, Try.ntmps16
  go_wp2_with fail
  rw [zig_bits h0 h1]
  have hz := zig_range h0 h1
  refine (put_calls _ _ _ xs _ _ HR.out hz.1 hz.2 hl).mono ?_
  rintro e w' ⟨v, rfl, ho, hb⟩
  have HO := Aside0.mk ho
  have HB := Aside0.mk hb
  clear ho hb
  go_wp2
  go_ret
  exact ⟨_, rfl, HO.out, HB.out⟩

set_option maxHeartbeats 1000000 in
theorem takeInt_calls (A : Option Addr) (n c : Nat) (xs : List Int) (w : World) (hr : ReadsInt w .u8 A n xs) (hB : Bytes xs) (hl : n ≤ 140737488355000) :
    Calls Try.prog 12 #[.slice A n c] w fun e w' => e = .returned (.tuple #[.int .i64 (zag (takeN xs).1), .int .i64 (takeN xs).2.1, .int .i64 (takeN xs).2.2]) ∧ w' = w := by
  have HR := Aside0.mk hr
  clear hr
  go_enter Try.func12, Try.ntmps12
  go_wp2_with (go_at_call 10; go_must (refine (take_calls _ _ _ xs _ HR.out hB hl).mono ?_; rintro e w' ⟨rfl, rfl⟩))
  have hu := takeN_range hB
  rw [zag_bits hu.1 hu.2]
  go_ret3
  exact ⟨rfl, rfl⟩
end Go.Proofs.Ytcgmfbefikpkbaa
