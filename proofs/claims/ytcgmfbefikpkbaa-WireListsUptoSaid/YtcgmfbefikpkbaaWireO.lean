/-
  The walks of Whole, TakeList and PutList over functions that tell odd counts, or that there aren't.
-/
import Derived.Test.YtcgmfbefikpkbaaWireC
namespace Go.Proofs.Ytcgmfbefikpkbaa
open Go.RowKit Go.Proofs.YtcgmfbefikpkbaaW.PrintWords Go.RegionInvYtcgmfbefikpkbaa

abbrev oddF (g : Nat) : Value := .func (.func 30) #[] #[.pointer (some ⟨g, 0, none⟩)]
theorem notNil_odd (g : Nat) (W : World) : (binOp .eql 53 (oddF g) .nilFunc).run Try.prog W = .ok (.bool false) W := by kernel_rfl
theorem nil_odd (W : World) : (binOp .eql 53 .nilFunc .nilFunc).run Try.prog W = .ok (.bool true) W := by kernel_rfl
theorem nil_putOdd (W : World) : (binOp .eql 64 .nilFunc .nilFunc).run Try.prog W = .ok (.bool true) W := by kernel_rfl

set_option maxHeartbeats 2000000 in
theorem odd_calls (v : Value) (g : Nat) (k : Int) (w : World) (hc : w.cell? ⟨g, 0, none⟩ = some (.int .i64 k)) :
    Calls Try.prog 30 #[v, .pointer (some ⟨g, 0, none⟩)] w fun e w' => e = .returned (.tuple #[.int .i64 7, .int .i64 k, .int .i64 0]) ∧ Below w.heap.size w w' := by
  go_enter Try.func30, Try.ntmps30
  go_wp2
  go_region
  all_goals go_wp2
  all_goals go_ret3
  all_goals exact ⟨rfl, below_drew (Below.refl _ _)⟩

def oddW (k : Int) (n : Nat) : Int × Int := if k = n then (7, 0) else (0, 4)
theorem oddW_eq {k : Int} {n : Nat} (h : k = n) : oddW k n = (7, 0) := by unfold oddW; rw [if_pos h]
theorem oddW_ne {k : Int} {n : Nat} (h : k ≠ n) : oddW k n = (0, 4) := by unfold oddW; rw [if_neg h]
def oddE (k : Int) (n : Nat) : Int := if 1 ≤ k ∧ k ≤ n then 0 else 4
theorem oddE_in {k : Int} {n : Nat} (h : 1 ≤ k ∧ k ≤ n) : oddE k n = 0 := by unfold oddE; rw [if_pos h]
theorem oddE_out {k : Int} {n : Nat} (h : ¬ (1 ≤ k ∧ k ≤ n)) : oddE k n = 4 := by unfold oddE; rw [if_neg h]
set_option maxHeartbeats 2000000 in
theorem wholeOdd_calls (A : Option Addr) (n c g : Nat) (k : Int) (w : World) (hg : w.cell? ⟨g, 0, none⟩ = some (.int .i64 k)) :
    Calls Try.prog 31 #[.slice A n c, oddF g] w fun e w' => e = .returned (.tuple #[.int .i64 (oddW k n).1, .int .i64 (oddW k n).2]) ∧ Below w.heap.size w w' := by
  have hnil := notNil_odd g
  have HG := Aside0.mk hg
  clear hg
  unfold oddF at hnil ⊢
  go_enter Try.func31, Try.ntmps31
  by_cases h : k = n
  · have e2 : (k != (n : Int)) = false := by simp [h]
    have H := Aside0.mk (oddW_eq h)
    clear h
    go_wp2_with (go_at_call 30; go_must (refine (odd_calls _ g k _ HG.out).mono ?_; rintro e w1 ⟨rfl, hb⟩; have HB := Aside0.mk hb; clear hb))
    go_ret2
    exact ⟨by rw [H.out]; rfl, HB.out⟩
  · have e2 : (k != (n : Int)) = true := by simp [h]
    have H := Aside0.mk (oddW_ne h)
    clear h
    go_wp2_with (go_at_call 30; go_must (refine (odd_calls _ g k _ HG.out).mono ?_; rintro e w1 ⟨rfl, hb⟩; have HB := Aside0.mk hb; clear hb))
    go_ret2
    exact ⟨by rw [H.out]; rfl, HB.out⟩

set_option maxHeartbeats 2000000 in
theorem wholeNil_calls (A : Option Addr) (n c : Nat) (w : World) :
    Calls Try.prog 31 #[.slice A n c, .nilFunc] w fun e w' => e = .returned (.tuple #[.int .i64 0, .int .i64 1]) ∧ Below w.heap.size w w' := by
  have hnil := nil_odd
  go_enter Try.func31, Try.ntmps31
  go_wp2
  go_ret2
  exact ⟨rfl, Below.refl _ _⟩

set_option maxHeartbeats 2000000 in
theorem listNil_calls (A : Option Addr) (n c : Nat) (m : Int) (w : World) :
    Calls Try.prog 32 #[.slice A n c, .int .i64 m, .nilFunc] w fun e w' => e = .returned (.tuple #[.slice none 0 0, .int .i64 0, .int .i64 1]) ∧ Below w.heap.size w w' := by
  have hnil := nil_odd
  go_enter Try.func32, Try.ntmps32
  go_wp2
  go_ret3
  exact ⟨rfl, Below.refl _ _⟩

set_option maxHeartbeats 2000000 in
theorem putNil_calls (A : Option Addr) (n c : Nat) (xs : List Int) (v : Value) (w : World) (hr : ReadsInt w .u8 A n xs) (hl : n ≤ 140737488355000) :
    Calls Try.prog 33 #[.slice A n c, v, .nilFunc] w fun e w' => ∃ v, e = .returned v ∧ OwnB w' w.heap.size v xs ∧ Below w.heap.size w w' := by
  have hnil := nil_putOdd
  have HR := Aside0.mk hr
  clear hr
  go_enter Try.func33, Try.ntmps33
  go_wp2_with (at_builtin; go_must (refine print_append_row w.heap.size rfl (.const (.slice none 0 0)) (.tmp 12) 22 5 .u8 1 rfl Try.underlying22 infoU8 (by decide) (.slice none 0 0) [] xs A n c rfl rfl (own_nil _ _ _ _) HR.out (Below.refl _ _) (Nat.le_refl _) (by simp; omega) ?_; intro v1 w1 ho hb _ _; have HO := Aside0.mk ho; have HB := Aside0.mk hb; clear ho hb))
  go_ret
  exact ⟨_, rfl, HO.out, HB.out⟩

theorem infoI64 : (Try.prog.info? 3).map (fun i => (i.zero, i.size, i.bytes)) = some (some (.int .i64 0), 1, 8) := by kernel_rfl
theorem run_cut_from {A : Option Addr} {n c : Nat} (m : Nat) (hm : m ≤ n) :
    ∃ A', (∀ W, (Instr.slice 22 (.slice A n c) (some (.int .i64 (m : Int))) none none).run Try.prog W = .ok (.slice A' (n - m) (c - m)) W) ∧ ∀ (w : World) (xs : List Int), n ≤ c → ReadsInt w .u8 A n xs → ReadsInt w .u8 A' (n - m) (xs.drop m) := by
  obtain ⟨i, hi, hz⟩ := Option.map_eq_some_iff.1 infoU8
  have hs : i.size = 1 := by injection hz with _ hz; injection hz
  obtain ⟨A', h1, h2⟩ := print_cut (P := Try.prog) 22 5 .i64 Try.underlying22 hi hs A n c m hm
  exact ⟨A', h1, fun w xs hc h => h2 w .u8 xs hc h⟩

def ListPost (w : World) (r : Int) (e : Ending) (w' : World) : Prop := ∃ v x, e = .returned (.tuple #[v, x, .int .i64 r]) ∧ Below w.heap.size w w'
set_option maxHeartbeats 4000000 in
theorem listOdd_calls (A : Option Addr) (n c g : Nat) (k : Int) (xs : List Int) (w : World) (hr : ReadsInt w .u8 A n (1 :: xs)) (hB : Bytes xs) (hg : w.cell? ⟨g, 0, none⟩ = some (.int .i64 k)) (hl : n ≤ 140737488355000) (hk0 : -9223372036854775808 ≤ k) (hk1 : k ≤ 9223372036854775807) :
    Calls Try.prog 32 #[.slice A n c, .int .i64 5, oddF g] w (ListPost w (oddE k xs.length)) := by
  have hnil := notNil_odd g
  have HG := Aside0.mk hg
  have HR := Aside0.mk hr
  have hn : xs.length + 1 = n := hr.1
  have HN := Aside0.mk hn
  have ht := take_put (n := 1) xs (by decide) (by decide)
  rw [putN_lt (by decide)] at ht
  have HT := Aside0.mk (show takeN (1 :: xs) = (1, 1, 0) from ht)
  have hB1 : Bytes (1 :: xs) := fun x hx => by
    rcases List.mem_cons.1 hx with rfl | hx
    · decide
    · exact hB x hx
  obtain ⟨A', hcut, -⟩ := run_cut_from (A := A) (n := n) (c := c) 1 (by omega)
  rw [show ((1 : Nat) : Int) = 1 from rfl] at hcut
  have hn1 : 1 ≤ n := by omega
  clear hg hr hn ht
  unfold oddF at hnil ⊢
  go_enter Try.func32, Try.ntmps32
  go_wp2_with (go_at_call 10; go_must (refine (take_calls A n c (1 :: xs) _ HR.out hB1 hl).mono ?_; rintro e w' ⟨rfl, hw⟩; obtain rfl : w = w' := hw.symm; rw [HT.out]))
  refine wp_loop_rounds 2 ?_
  rw [rounds_succ]
  by_cases h1 : k < 1
  · have HE := Aside0.mk (oddE_out (k := k) (n := xs.length) (by omega))
    go_wp2_with (go_at_call 30; go_must (refine (odd_calls _ g k _ HG.out).mono ?_; rintro e w1 ⟨rfl, hb⟩; have HB := Aside0.mk hb; clear hb))
    go_ret3
    exact ⟨_, _, by rw [HE.out]; rfl, HB.out⟩
  · by_cases h2 : (n : Int) - 1 < k
    · have HE := Aside0.mk (oddE_out (k := k) (n := xs.length) (by have := HN.out; omega))
      go_wp2_with (go_at_call 30; go_must (refine (odd_calls _ g k _ HG.out).mono ?_; rintro e w1 ⟨rfl, hb⟩; have HB := Aside0.mk hb; clear hb))
      go_ret3
      exact ⟨_, _, by rw [HE.out]; rfl, HB.out⟩
    · have HE := Aside0.mk (oddE_in (k := k) (n := xs.length) (by have := HN.out; omega))
      go_wp2_with (first
        | (go_at_call 30; go_must (refine (odd_calls _ g k _ HG.out).mono ?_; rintro e w1 ⟨rfl, hb⟩; have HB := Aside0.mk hb; clear hb))
        | (at_builtin; go_must (refine print_append_num (w0 := w1) w1.heap.size rfl (.tmp 65) (.tmp 67) 56 3 .i64 8 rfl Try.underlying56 infoI64 (by decide) (.slice none 0 0) [] 7 rfl rfl (own_nil _ _ _ _) (Below.refl _ _) (Nat.le_refl _) (by decide) ?_; intro v2 w2 ho hb _ _; have HB2 := Aside0.mk (below_then HB.out HB.out.size hb); clear ho hb)))
      rw [rounds_succ]
      go_wp2
      go_ret3
      exact ⟨_, _, by rw [HE.out]; rfl, HB2.out⟩
end Go.Proofs.Ytcgmfbefikpkbaa
