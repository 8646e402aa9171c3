/- Rows of bytes that are the same: the walk of SameBytes. -/
import Derived.Test.YtcgmfbefikpkbaaWireLT
namespace Go.Proofs.Ytcgmfbefikpkbaa
open Go.RowKit Go.Proofs.YtcgmfbefikpkbaaW.PrintWords Go.RegionInvYtcgmfbefikpkbaa
set_option linter.unusedVariables false

def sb_ops : List Oper := [
  { dst := some 16, op := Go.Op.move (Go.Operand.tmp 0), type := 42, pos := "ref.go:165", after := #[], guard := none },
  { dst := some 17, op := Go.Op.move (Go.Operand.tmp 5), type := 3, pos := "ref.go:165", after := #[], guard := none },
  { dst := some 18, op := Go.Op.indexAddr 42 (Go.Operand.tmp 16) (Go.Operand.tmp 17), type := 0, pos := "ref.go:165", after := #[{ on := 0, ground := Go.Ground.data }, { on := 1, ground := Go.Ground.data }], guard := none },
  { dst := some 19, op := Go.Op.load 22 (Go.Operand.tmp 18), type := 22, pos := "ref.go:165", after := #[{ on := 2, ground := Go.Ground.data }], guard := none },
  { dst := some 20, op := Go.Op.convert 22 9 (Go.Operand.tmp 19), type := 9, pos := "ref.go:165", after := #[{ on := 3, ground := Go.Ground.data }], guard := none },
  { dst := some 21, op := Go.Op.move (Go.Operand.tmp 1), type := 42, pos := "ref.go:165", after := #[], guard := none },
  { dst := some 22, op := Go.Op.move (Go.Operand.tmp 5), type := 3, pos := "ref.go:165", after := #[], guard := none },
  { dst := some 23, op := Go.Op.indexAddr 42 (Go.Operand.tmp 21) (Go.Operand.tmp 22), type := 0, pos := "ref.go:165", after := #[{ on := 5, ground := Go.Ground.data }, { on := 6, ground := Go.Ground.data }], guard := none },
  { dst := some 24, op := Go.Op.load 22 (Go.Operand.tmp 23), type := 22, pos := "ref.go:165", after := #[{ on := 7, ground := Go.Ground.data }], guard := none },
  { dst := some 25, op := Go.Op.convert 22 9 (Go.Operand.tmp 24), type := 9, pos := "ref.go:165", after := #[{ on := 8, ground := Go.Ground.data }], guard := none },
  { dst := some 26, op := Go.Op.binOp Go.BinOp.neq 9 (Go.Operand.tmp 20) (Go.Operand.tmp 25) 9, type := 4, pos := "ref.go:165", after := #[{ on := 4, ground := Go.Ground.data }, { on := 9, ground := Go.Ground.data }], guard := none }]
def sb_F (w0 : World) (ad ad2 : Addr) (n c c2 k : Nat) (A3 A4 : Option Addr) (m3 c3 m4 c4 : Nat) (r : List Int) : Nat → Value → World → (Nat → Prop) → Prop := fun i => match i with
  | 0 => fun v _ _ => v = .slice (some ad) n c
  | 1 => fun v _ _ => v = .int .i64 k
  | 2 => fun v _ _ => v = .pointer (some (ad.add k))
  | 3 => fun v _ _ => v = .slice A3 m3 c3
  | 4 => fun v _ _ => v = .string (strOfNums r)
  | 5 => fun v _ _ => v = .slice (some ad2) n c2
  | 6 => fun v _ _ => v = .int .i64 k
  | 7 => fun v _ _ => v = .pointer (some (ad2.add k))
  | 8 => fun v _ _ => v = .slice A4 m4 c4
  | 9 => fun v _ _ => v = .string (strOfNums r)
  | 10 => fun v _ _ => v = .bool false
  | _ => fun _ _ _ => True
def sb_C : Nat → List Nat := fun i => match i with
  | _ => []
theorem sb_nw0 : nwB sb_ops.toArray 0 = true := by kernel_rfl
theorem sb_nw1 : nwB sb_ops.toArray 1 = true := by kernel_rfl
theorem sb_nw5 : nwB sb_ops.toArray 5 = true := by kernel_rfl
set_option maxRecDepth 100000 in
set_option maxHeartbeats 4000000 in
theorem sb_obs (w0 : World) (ad ad2 : Addr) (n c c2 k : Nat) (A3 A4 : Option Addr) (m3 c3 m4 c4 : Nat) (r : List Int) (hk2 : k < n) (hc1 : w0.cell? (ad.add k) = some (.slice A3 m3 c3)) (hc2 : w0.cell? (ad2.add k) = some (.slice A4 m4 c4)) (h1 : ReadsInt w0 .u8 A3 m3 r) (h2 : ReadsInt w0 .u8 A4 m4 r) (Q : Exit → Act → World → Prop) (a0 : Act) (hi0 : a0.tmps.getD 0 undef = .slice (some ad) n c) (hi1 : a0.tmps.getD 1 undef = .slice (some ad2) n c2) (hi5 : a0.tmps.getD 5 undef = .int .i64 k) :
    Obs Try.prog sb_ops.toArray Q w0.heap.size sb_C (sb_F w0 ad ad2 n c c2 k A3 A4 m3 c3 m4 c4 r) a0 w0 sb_ops.toArray.toList 0 := by
  have nw0 := sb_nw0
  have nw1 := sb_nw1
  have nw5 := sb_nw5
  refine ⟨?_, ?_, ?_, ?_, ?_, ?_, ?_, ?_, ?_, ?_, ?_, trivial⟩
  · refine ⟨stable_det _, ?_⟩
    intro a w O hk
    have e0 : a.tmps.getD 0 undef = .slice (some ad) n c := (hk.init 0 (initialB_of_nw nw0)).trans hi0
    exact ob_move rfl e0 (wanted_none rfl) rfl
  · refine ⟨stable_det _, ?_⟩
    intro a w O hk
    have e5 : a.tmps.getD 5 undef = .int .i64 k := (hk.init 5 (initialB_of_nw nw5)).trans hi5
    exact ob_move rfl e5 (wanted_none rfl) rfl
  · refine ⟨stable_det _, ?_⟩
    intro a w O hk
    have e16 : a.tmps.getD 16 undef = .slice (some ad) n c := hk.fact 0 _ 16 rfl rfl rfl rfl
    have e17 : a.tmps.getD 17 undef = .int .i64 k := hk.fact 1 _ 17 rfl rfl rfl rfl
    exact ob_indexAddr rfl e16 e17 Try.underlying42 hk2 infoBs (wanted_none rfl) rfl
  · refine ⟨stable_det _, ?_⟩
    intro a w O hk
    have e18 : a.tmps.getD 18 undef = .pointer (some (ad.add k)) := hk.fact 2 _ 18 rfl rfl rfl rfl
    exact ob_loadSlice rfl e18 Try.underlying22 ((hk.world.cell (World.block_lt_of_cell? w0 _ hc1)).trans hc1) (wanted_none rfl) rfl
  · refine ⟨stable_det _, ?_⟩
    intro a w O hk
    have e19 : a.tmps.getD 19 undef = .slice A3 m3 c3 := hk.fact 3 _ 19 rfl rfl rfl rfl
    exact ob_convert rfl e19 (string_of_reads Try.underlying22 Try.underlying5 Try.underlying9 (h1.below hk.world)) (wanted_none rfl) rfl
  · refine ⟨stable_det _, ?_⟩
    intro a w O hk
    have e1 : a.tmps.getD 1 undef = .slice (some ad2) n c2 := (hk.init 1 (initialB_of_nw nw1)).trans hi1
    exact ob_move rfl e1 (wanted_none rfl) rfl
  · refine ⟨stable_det _, ?_⟩
    intro a w O hk
    have e5 : a.tmps.getD 5 undef = .int .i64 k := (hk.init 5 (initialB_of_nw nw5)).trans hi5
    exact ob_move rfl e5 (wanted_none rfl) rfl
  · refine ⟨stable_det _, ?_⟩
    intro a w O hk
    have e21 : a.tmps.getD 21 undef = .slice (some ad2) n c2 := hk.fact 5 _ 21 rfl rfl rfl rfl
    have e22 : a.tmps.getD 22 undef = .int .i64 k := hk.fact 6 _ 22 rfl rfl rfl rfl
    exact ob_indexAddr rfl e21 e22 Try.underlying42 hk2 infoBs (wanted_none rfl) rfl
  · refine ⟨stable_det _, ?_⟩
    intro a w O hk
    have e23 : a.tmps.getD 23 undef = .pointer (some (ad2.add k)) := hk.fact 7 _ 23 rfl rfl rfl rfl
    exact ob_loadSlice rfl e23 Try.underlying22 ((hk.world.cell (World.block_lt_of_cell? w0 _ hc2)).trans hc2) (wanted_none rfl) rfl
  · refine ⟨stable_det _, ?_⟩
    intro a w O hk
    have e24 : a.tmps.getD 24 undef = .slice A4 m4 c4 := hk.fact 8 _ 24 rfl rfl rfl rfl
    exact ob_convert rfl e24 (string_of_reads Try.underlying22 Try.underlying5 Try.underlying9 (h2.below hk.world)) (wanted_none rfl) rfl
  · refine ⟨stable_det _, ?_⟩
    intro a w O hk
    have e20 : a.tmps.getD 20 undef = .string (strOfNums r) := hk.fact 4 _ 20 rfl rfl rfl rfl
    have e25 : a.tmps.getD 25 undef = .string (strOfNums r) := hk.fact 9 _ 25 rfl rfl rfl rfl
    exact ob_neqStr rfl e20 e25 rfl (wanted_none rfl) rfl
set_option maxRecDepth 100000 in
set_option maxHeartbeats 4000000 in
theorem sb_region {Q : Exit → Act → World → Prop} {id : Nat} (w0 : World) (ad ad2 : Addr) (n c c2 k : Nat) (A3 A4 : Option Addr) (m3 c3 m4 c4 : Nat) (r : List Int) {s2 s3 s4 s6 s7 s8 s9 s10 s11 s12 s13 s14 s15 s16 s17 s18 s19 s20 s21 s22 s23 s24 s25 s26 s27 : Value} (hk2 : k < n) (hc1 : w0.cell? (ad.add k) = some (.slice A3 m3 c3)) (hc2 : w0.cell? (ad2.add k) = some (.slice A4 m4 c4)) (h1 : ReadsInt w0 .u8 A3 m3 r) (h2 : ReadsInt w0 .u8 A4 m4 r)
    (hend : ∀ (w' : World), Below w0.heap.size w0 w' → Q .normal { tmps := ((.slice (some ad) n c : Value) :: (.slice (some ad2) n c2 : Value) :: s2 :: s3 :: s4 :: (.int .i64 k : Value) :: s6 :: s7 :: s8 :: s9 :: s10 :: s11 :: s12 :: s13 :: s14 :: s15 :: (.slice (some ad) n c : Value) :: (.int .i64 k : Value) :: (.pointer (some (ad.add k)) : Value) :: (.slice A3 m3 c3 : Value) :: (.string (strOfNums r) : Value) :: (.slice (some ad2) n c2 : Value) :: (.int .i64 k : Value) :: (.pointer (some (ad2.add k)) : Value) :: (.slice A4 m4 c4 : Value) :: (.string (strOfNums r) : Value) :: (.bool false : Value) :: s27 :: ([] : List Value)).toArray, defers := [] } w') :
    (Code.region id sb_ops.toArray true).wp Try.prog Q { tmps := ((.slice (some ad) n c : Value) :: (.slice (some ad2) n c2 : Value) :: s2 :: s3 :: s4 :: (.int .i64 k : Value) :: s6 :: s7 :: s8 :: s9 :: s10 :: s11 :: s12 :: s13 :: s14 :: s15 :: s16 :: s17 :: s18 :: s19 :: s20 :: s21 :: s22 :: s23 :: s24 :: s25 :: s26 :: s27 :: ([] : List Value)).toArray, defers := [] } w0 := by
  refine wp_region_inv (by kernel_rfl) (w0.heap.size) sb_C (sb_F w0 ad ad2 n c c2 k A3 A4 m3 c3 m4 c4 r) (Nat.le_refl _) (by rfl) (by kernel_rfl) (sb_obs w0.drew ad ad2 n c c2 k A3 A4 m3 c3 m4 c4 r hk2 hc1 hc2 h1 h2 _ _ rfl rfl rfl) ?_
  intro a w' O hd hs hb hf hsame
  have x0 : a.tmps.getD 0 undef = .slice (some ad) n c := hsame 0 (nwB.spec (by kernel_rfl))
  have x1 : a.tmps.getD 1 undef = .slice (some ad2) n c2 := hsame 1 (nwB.spec (by kernel_rfl))
  have x2 : a.tmps.getD 2 undef = s2 := hsame 2 (nwB.spec (by kernel_rfl))
  have x3 : a.tmps.getD 3 undef = s3 := hsame 3 (nwB.spec (by kernel_rfl))
  have x4 : a.tmps.getD 4 undef = s4 := hsame 4 (nwB.spec (by kernel_rfl))
  have x5 : a.tmps.getD 5 undef = .int .i64 k := hsame 5 (nwB.spec (by kernel_rfl))
  have x6 : a.tmps.getD 6 undef = s6 := hsame 6 (nwB.spec (by kernel_rfl))
  have x7 : a.tmps.getD 7 undef = s7 := hsame 7 (nwB.spec (by kernel_rfl))
  have x8 : a.tmps.getD 8 undef = s8 := hsame 8 (nwB.spec (by kernel_rfl))
  have x9 : a.tmps.getD 9 undef = s9 := hsame 9 (nwB.spec (by kernel_rfl))
  have x10 : a.tmps.getD 10 undef = s10 := hsame 10 (nwB.spec (by kernel_rfl))
  have x11 : a.tmps.getD 11 undef = s11 := hsame 11 (nwB.spec (by kernel_rfl))
  have x12 : a.tmps.getD 12 undef = s12 := hsame 12 (nwB.spec (by kernel_rfl))
  have x13 : a.tmps.getD 13 undef = s13 := hsame 13 (nwB.spec (by kernel_rfl))
  have x14 : a.tmps.getD 14 undef = s14 := hsame 14 (nwB.spec (by kernel_rfl))
  have x15 : a.tmps.getD 15 undef = s15 := hsame 15 (nwB.spec (by kernel_rfl))
  have x16 : a.tmps.getD 16 undef = .slice (some ad) n c := (hf 0 _ 16 rfl rfl (by decide)).1
  have x17 : a.tmps.getD 17 undef = .int .i64 k := (hf 1 _ 17 rfl rfl (by decide)).1
  have x18 : a.tmps.getD 18 undef = .pointer (some (ad.add k)) := (hf 2 _ 18 rfl rfl (by decide)).1
  have x19 : a.tmps.getD 19 undef = .slice A3 m3 c3 := (hf 3 _ 19 rfl rfl (by decide)).1
  have x20 : a.tmps.getD 20 undef = .string (strOfNums r) := (hf 4 _ 20 rfl rfl (by decide)).1
  have x21 : a.tmps.getD 21 undef = .slice (some ad2) n c2 := (hf 5 _ 21 rfl rfl (by decide)).1
  have x22 : a.tmps.getD 22 undef = .int .i64 k := (hf 6 _ 22 rfl rfl (by decide)).1
  have x23 : a.tmps.getD 23 undef = .pointer (some (ad2.add k)) := (hf 7 _ 23 rfl rfl (by decide)).1
  have x24 : a.tmps.getD 24 undef = .slice A4 m4 c4 := (hf 8 _ 24 rfl rfl (by decide)).1
  have x25 : a.tmps.getD 25 undef = .string (strOfNums r) := (hf 9 _ 25 rfl rfl (by decide)).1
  have x26 : a.tmps.getD 26 undef = .bool false := (hf 10 _ 26 rfl rfl (by decide)).1
  have x27 : a.tmps.getD 27 undef = s27 := hsame 27 (nwB.spec (by kernel_rfl))
  have hl : a.tmps = ((.slice (some ad) n c : Value) :: (.slice (some ad2) n c2 : Value) :: s2 :: s3 :: s4 :: (.int .i64 k : Value) :: s6 :: s7 :: s8 :: s9 :: s10 :: s11 :: s12 :: s13 :: s14 :: s15 :: (.slice (some ad) n c : Value) :: (.int .i64 k : Value) :: (.pointer (some (ad.add k)) : Value) :: (.slice A3 m3 c3 : Value) :: (.string (strOfNums r) : Value) :: (.slice (some ad2) n c2 : Value) :: (.int .i64 k : Value) :: (.pointer (some (ad2.add k)) : Value) :: (.slice A4 m4 c4 : Value) :: (.string (strOfNums r) : Value) :: (.bool false : Value) :: s27 :: ([] : List Value)).toArray := by
    have h := lit a.tmps 28 hs
    have e : ((List.range 28).map (fun i => a.tmps.getD i undef)).toArray = ((a.tmps.getD 0 undef : Value) :: (a.tmps.getD 1 undef : Value) :: (a.tmps.getD 2 undef : Value) :: (a.tmps.getD 3 undef : Value) :: (a.tmps.getD 4 undef : Value) :: (a.tmps.getD 5 undef : Value) :: (a.tmps.getD 6 undef : Value) :: (a.tmps.getD 7 undef : Value) :: (a.tmps.getD 8 undef : Value) :: (a.tmps.getD 9 undef : Value) :: (a.tmps.getD 10 undef : Value) :: (a.tmps.getD 11 undef : Value) :: (a.tmps.getD 12 undef : Value) :: (a.tmps.getD 13 undef : Value) :: (a.tmps.getD 14 undef : Value) :: (a.tmps.getD 15 undef : Value) :: (a.tmps.getD 16 undef : Value) :: (a.tmps.getD 17 undef : Value) :: (a.tmps.getD 18 undef : Value) :: (a.tmps.getD 19 undef : Value) :: (a.tmps.getD 20 undef : Value) :: (a.tmps.getD 21 undef : Value) :: (a.tmps.getD 22 undef : Value) :: (a.tmps.getD 23 undef : Value) :: (a.tmps.getD 24 undef : Value) :: (a.tmps.getD 25 undef : Value) :: (a.tmps.getD 26 undef : Value) :: (a.tmps.getD 27 undef : Value) :: ([] : List Value)).toArray := rfl
    rw [e, x0, x1, x2, x3, x4, x5, x6, x7, x8, x9, x10, x11, x12, x13, x14, x15, x16, x17, x18, x19, x20, x21, x22, x23, x24, x25, x26, x27] at h
    exact h
  obtain ⟨tmps, defers⟩ := a
  obtain rfl : defers = [] := hd
  have hl' : tmps = _ := hl
  rw [hl']
  exact hend w' ⟨hb.os, hb.tape, hb.output, hb.size, hb.block⟩

set_option maxHeartbeats 4000000 in
theorem sameBytes_calls (A A2 : Option Addr) (n c c2 : Nat) (rows : List (List Int)) (w : World) (hr : ReadsRows w A n rows) (hr2 : ReadsRows w A2 n rows) :
    Calls Try.prog 28 #[.slice A n c, .slice A2 n c2] w fun e w' => e = .returned (.bool true) ∧ Below w.heap.size w w' := by
  have HR := Aside0.mk hr
  have HR2 := Aside0.mk hr2
  have hn1 := hr.2.1
  clear hr hr2
  go_enter Try.func28, Try.ntmps28
  go_wp2
  go_loopw [13] (fun i wr => ∃ k : Nat, i = .int .i64 k ∧ k ≤ n ∧ Aside0 (Below w.heap.size w wr)) (fun i _ => n - (intOf i).toNat)
  case atStart => exact ⟨0, rfl, Nat.zero_le _, ⟨Below.refl _ _⟩⟩
  case round =>
    obtain ⟨k, rfl, hk, HB⟩ := hrel
    by_cases hlt : k < n
    · obtain ⟨ad, A3, m3, c3, r, rfl, hc1, -, h1, hrk⟩ := (HR.out.below HB.out).at_ k hlt
      obtain ⟨ad2, A4, m4, c4, r2, rfl, hc2, -, h2, hrk2⟩ := (HR2.out.below HB.out).at_ k hlt
      obtain rfl : r = r2 := Option.some.inj (hrk.symm.trans hrk2)
      have HC := Aside0.mk (And.intro hc1 (And.intro hc2 (And.intro h1 h2)))
      clear hrk hrk2 hc1 hc2 h1 h2
      go_upto_region 6 with (fail)
      refine sb_region wr ad ad2 n c c2 k A3 A4 m3 c3 m4 c4 r hlt HC.out.1 HC.out.2.1 HC.out.2.2.1 HC.out.2.2.2 ?_
      intro w2 hb
      have HB2 := Aside0.mk (below_then HB.out HB.out.size hb)
      clear hb
      go_wp2
      go_roundw
      case rel => exact ⟨k + 1, by go_num, by omega, HB2⟩
      case measure => simp [intOf]; omega
    · obtain rfl : k = n := by omega
      have hlt' : decide ((k : Int) < k) = false := by simp
      go_wp2
      go_ret
      exact ⟨rfl, HB.out⟩

end Go.Proofs.Ytcgmfbefikpkbaa
