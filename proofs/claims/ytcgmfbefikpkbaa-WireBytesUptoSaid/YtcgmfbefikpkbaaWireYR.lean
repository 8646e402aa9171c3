/- Bytes with their length: the region of the law's test. -/
import Derived.Test.YtcgmfbefikpkbaaWireC
namespace Go.Proofs.Ytcgmfbefikpkbaa
open Go.RowKit Go.Proofs.YtcgmfbefikpkbaaW.PrintWords Go.RegionInvYtcgmfbefikpkbaa
set_option linter.unusedVariables false

def wy_ops : List Oper := [
  { dst := some 27, op := Go.Op.move (Go.Operand.tmp 7), type := 22, pos := "law.go:29", after := #[], guard := none },
  { dst := some 28, op := Go.Op.convert 22 9 (Go.Operand.tmp 27), type := 9, pos := "law.go:29", after := #[{ on := 0, ground := Go.Ground.data }], guard := none },
  { dst := some 29, op := Go.Op.move (Go.Operand.tmp 10), type := 22, pos := "law.go:29", after := #[], guard := none },
  { dst := some 30, op := Go.Op.convert 22 9 (Go.Operand.tmp 29), type := 9, pos := "law.go:29", after := #[{ on := 2, ground := Go.Ground.data }], guard := none },
  { dst := some 31, op := Go.Op.binOp Go.BinOp.eql 9 (Go.Operand.tmp 28) (Go.Operand.tmp 30) 9, type := 4, pos := "law.go:29", after := #[{ on := 1, ground := Go.Ground.data }, { on := 3, ground := Go.Ground.data }], guard := none },
  { dst := some 32, op := Go.Op.move (Go.Operand.tmp 31), type := 4, pos := "law.go:29", after := #[{ on := 4, ground := Go.Ground.data }], guard := none },
  { dst := some 33, op := Go.Op.move (Go.Operand.tmp 8), type := 3, pos := "law.go:29", after := #[{ on := 5, ground := Go.Ground.guard }], guard := some (5, true) },
  { dst := some 34, op := Go.Op.move (Go.Operand.tmp 11), type := 3, pos := "law.go:29", after := #[{ on := 5, ground := Go.Ground.guard }], guard := some (5, true) },
  { dst := some 35, op := Go.Op.binOp Go.BinOp.eql 3 (Go.Operand.tmp 33) (Go.Operand.tmp 34) 3, type := 4, pos := "law.go:29", after := #[{ on := 6, ground := Go.Ground.data }, { on := 7, ground := Go.Ground.data }, { on := 5, ground := Go.Ground.guard }], guard := some (5, true) },
  { dst := some 36, op := Go.Op.pick (Go.Operand.tmp 32) (Go.Operand.tmp 35) (Go.Operand.const (Go.Value.bool false)), type := 4, pos := "law.go:29", after := #[{ on := 5, ground := Go.Ground.data }, { on := 8, ground := Go.Ground.data }], guard := none },
  { dst := some 37, op := Go.Op.move (Go.Operand.tmp 36), type := 4, pos := "law.go:29", after := #[{ on := 9, ground := Go.Ground.data }, { on := 5, ground := Go.Ground.chain }], guard := none },
  { dst := some 38, op := Go.Op.move (Go.Operand.tmp 9), type := 24, pos := "law.go:29", after := #[{ on := 10, ground := Go.Ground.guard }], guard := some (10, true) },
  { dst := some 39, op := Go.Op.move (Go.Operand.tmp 12), type := 24, pos := "law.go:29", after := #[{ on := 10, ground := Go.Ground.guard }], guard := some (10, true) },
  { dst := some 40, op := Go.Op.binOp Go.BinOp.eql 24 (Go.Operand.tmp 38) (Go.Operand.tmp 39) 24, type := 4, pos := "law.go:29", after := #[{ on := 11, ground := Go.Ground.data }, { on := 12, ground := Go.Ground.data }, { on := 10, ground := Go.Ground.guard }], guard := some (10, true) },
  { dst := some 41, op := Go.Op.pick (Go.Operand.tmp 37) (Go.Operand.tmp 40) (Go.Operand.const (Go.Value.bool false)), type := 4, pos := "law.go:29", after := #[{ on := 10, ground := Go.Ground.data }, { on := 13, ground := Go.Ground.data }], guard := none },
  { dst := some 42, op := Go.Op.move (Go.Operand.tmp 41), type := 4, pos := "law.go:29", after := #[{ on := 14, ground := Go.Ground.data }, { on := 10, ground := Go.Ground.chain }], guard := none },
  { dst := some 43, op := Go.Op.move (Go.Operand.tmp 0), type := 22, pos := "law.go:29", after := #[{ on := 15, ground := Go.Ground.guard }], guard := some (15, true) },
  { dst := some 44, op := Go.Op.move (Go.Operand.tmp 1), type := 22, pos := "law.go:29", after := #[{ on := 15, ground := Go.Ground.guard }], guard := some (15, true) },
  { dst := some 45, op := Go.Op.call { callee := Go.Callee.value (Go.Operand.func 21), args := #[Go.Operand.tmp 43, Go.Operand.tmp 44], argTypes := #[22, 22] }, type := 22, pos := "law.go:29", after := #[{ on := 16, ground := Go.Ground.data }, { on := 17, ground := Go.Ground.data }, { on := 15, ground := Go.Ground.chain }, { on := 15, ground := Go.Ground.guard }], guard := some (15, true) },
  { dst := some 46, op := Go.Op.convert 22 9 (Go.Operand.tmp 45), type := 9, pos := "law.go:29", after := #[{ on := 18, ground := Go.Ground.data }, { on := 15, ground := Go.Ground.guard }], guard := some (15, true) },
  { dst := some 47, op := Go.Op.buildSlice 22 0 #[], type := 22, pos := "law.go:29", after := #[{ on := 15, ground := Go.Ground.guard }], guard := some (15, true) },
  { dst := some 48, op := Go.Op.move (Go.Operand.tmp 0), type := 22, pos := "law.go:29", after := #[{ on := 15, ground := Go.Ground.guard }], guard := some (15, true) },
  { dst := some 49, op := Go.Op.call { callee := Go.Callee.builtin Go.Builtin.append, args := #[Go.Operand.tmp 47, Go.Operand.tmp 48], argTypes := #[22, 22] }, type := 22, pos := "law.go:29", after := #[{ on := 20, ground := Go.Ground.data }, { on := 21, ground := Go.Ground.data }, { on := 18, ground := Go.Ground.chain }, { on := 15, ground := Go.Ground.guard }], guard := some (15, true) },
  { dst := some 50, op := Go.Op.move (Go.Operand.tmp 1), type := 22, pos := "law.go:29", after := #[{ on := 15, ground := Go.Ground.guard }], guard := some (15, true) },
  { dst := some 51, op := Go.Op.call { callee := Go.Callee.value (Go.Operand.func 22), args := #[Go.Operand.tmp 49, Go.Operand.tmp 50], argTypes := #[22, 22] }, type := 22, pos := "law.go:29", after := #[{ on := 22, ground := Go.Ground.data }, { on := 23, ground := Go.Ground.data }, { on := 22, ground := Go.Ground.chain }, { on := 15, ground := Go.Ground.guard }], guard := some (15, true) },
  { dst := some 52, op := Go.Op.convert 22 9 (Go.Operand.tmp 51), type := 9, pos := "law.go:29", after := #[{ on := 24, ground := Go.Ground.data }, { on := 15, ground := Go.Ground.guard }], guard := some (15, true) },
  { dst := some 53, op := Go.Op.binOp Go.BinOp.eql 9 (Go.Operand.tmp 46) (Go.Operand.tmp 52) 9, type := 4, pos := "law.go:29", after := #[{ on := 19, ground := Go.Ground.data }, { on := 25, ground := Go.Ground.data }, { on := 15, ground := Go.Ground.guard }], guard := some (15, true) },
  { dst := some 54, op := Go.Op.pick (Go.Operand.tmp 42) (Go.Operand.tmp 53) (Go.Operand.const (Go.Value.bool false)), type := 4, pos := "law.go:29", after := #[{ on := 15, ground := Go.Ground.data }, { on := 26, ground := Go.Ground.data }], guard := none },
  { dst := some 55, op := Go.Op.move (Go.Operand.tmp 54), type := 4, pos := "law.go:29", after := #[{ on := 27, ground := Go.Ground.data }, { on := 24, ground := Go.Ground.chain }], guard := none },
  { dst := some 56, op := Go.Op.call { callee := Go.Callee.value (Go.Operand.func 18), args := #[], argTypes := #[] }, type := 4, pos := "law.go:29", after := #[{ on := 28, ground := Go.Ground.chain }, { on := 28, ground := Go.Ground.guard }], guard := some (28, true) },
  { dst := some 57, op := Go.Op.pick (Go.Operand.tmp 55) (Go.Operand.tmp 56) (Go.Operand.const (Go.Value.bool false)), type := 4, pos := "law.go:29", after := #[{ on := 28, ground := Go.Ground.data }, { on := 29, ground := Go.Ground.data }], guard := none },
  { dst := some 6, op := Go.Op.assign (Go.Operand.tmp 57), type := 4, pos := "law.go:29", after := #[{ on := 30, ground := Go.Ground.data }, { on := 29, ground := Go.Ground.chain }, { on := 0, ground := Go.Ground.phase }, { on := 1, ground := Go.Ground.phase }, { on := 2, ground := Go.Ground.phase }, { on := 3, ground := Go.Ground.phase }, { on := 4, ground := Go.Ground.phase }, { on := 5, ground := Go.Ground.phase }, { on := 6, ground := Go.Ground.phase }, { on := 7, ground := Go.Ground.phase }, { on := 8, ground := Go.Ground.phase }, { on := 9, ground := Go.Ground.phase }, { on := 10, ground := Go.Ground.phase }, { on := 11, ground := Go.Ground.phase }, { on := 12, ground := Go.Ground.phase }, { on := 13, ground := Go.Ground.phase }, { on := 14, ground := Go.Ground.phase }, { on := 15, ground := Go.Ground.phase }, { on := 16, ground := Go.Ground.phase }, { on := 17, ground := Go.Ground.phase }, { on := 18, ground := Go.Ground.phase }, { on := 19, ground := Go.Ground.phase }, { on := 20, ground := Go.Ground.phase }, { on := 21, ground := Go.Ground.phase }, { on := 22, ground := Go.Ground.phase }, { on := 23, ground := Go.Ground.phase }, { on := 24, ground := Go.Ground.phase }, { on := 25, ground := Go.Ground.phase }, { on := 26, ground := Go.Ground.phase }, { on := 27, ground := Go.Ground.phase }, { on := 28, ground := Go.Ground.phase }, { on := 29, ground := Go.Ground.phase }, { on := 30, ground := Go.Ground.phase }], guard := none }]
def wy_F (w0 : World) (A A2 A7 A10 : Option Addr) (n c m c2 m7 c7 m10 c10 : Nat) (xs ys : List Int) (most : Int) : Nat → Value → World → (Nat → Prop) → Prop := fun i => match i with
  | 0 => fun v _ _ => v = .slice A7 m7 c7
  | 1 => fun v _ _ => v = .string (strOfNums (takeB xs most).1)
  | 2 => fun v _ _ => v = .slice A10 m10 c10
  | 3 => fun v _ _ => v = .string (strOfNums (takeB xs most).1)
  | 4 => fun v _ _ => v = .bool true
  | 5 => fun v _ _ => v = .bool true
  | 6 => fun v _ _ => v = .int .i64 (takeB xs most).2.1
  | 7 => fun v _ _ => v = .int .i64 (takeB xs most).2.1
  | 8 => fun v _ _ => v = .bool true
  | 9 => fun v _ _ => v = .bool true
  | 10 => fun v _ _ => v = .bool true
  | 11 => fun v _ _ => v = .int .i64 (takeB xs most).2.2
  | 12 => fun v _ _ => v = .int .i64 (takeB xs most).2.2
  | 13 => fun v _ _ => v = .bool true
  | 14 => fun v _ _ => v = .bool true
  | 15 => fun v _ _ => v = .bool true
  | 16 => fun v _ _ => v = .slice A n c
  | 17 => fun v _ _ => v = .slice A2 m c2
  | 18 => fun v w O => OwnO w0.heap.size 5 1 (xs ++ putB ys).length (nums .u8 (xs ++ putB ys)) v w O
  | 19 => fun v _ _ => v = .string (strOfNums (xs ++ putB ys))
  | 20 => fun v w O => OwnO w0.heap.size 5 1 ([] : List Int).length (nums .u8 []) v w O
  | 21 => fun v _ _ => v = .slice A n c
  | 22 => fun v w O => OwnO w0.heap.size 5 1 (xs).length (nums .u8 (xs)) v w O
  | 23 => fun v _ _ => v = .slice A2 m c2
  | 24 => fun v w O => OwnO w0.heap.size 5 1 (xs ++ putB ys).length (nums .u8 (xs ++ putB ys)) v w O
  | 25 => fun v _ _ => v = .string (strOfNums (xs ++ putB ys))
  | 26 => fun v _ _ => v = .bool true
  | 27 => fun v _ _ => v = .bool true
  | 28 => fun v _ _ => v = .bool true
  | 29 => fun v _ _ => v = .bool true
  | 30 => fun v _ _ => v = .bool true
  | 31 => fun v _ _ => v = .bool true
  | _ => fun _ _ _ => True
def wy_C : Nat → List Nat := fun i => match i with
  | 22 => [20]
  | 24 => [22]
  | _ => []
theorem wy_nw0 : nwB wy_ops.toArray 0 = true := by kernel_rfl
theorem wy_nw1 : nwB wy_ops.toArray 1 = true := by kernel_rfl
theorem wy_nw7 : nwB wy_ops.toArray 7 = true := by kernel_rfl
theorem wy_nw8 : nwB wy_ops.toArray 8 = true := by kernel_rfl
theorem wy_nw9 : nwB wy_ops.toArray 9 = true := by kernel_rfl
theorem wy_nw10 : nwB wy_ops.toArray 10 = true := by kernel_rfl
theorem wy_nw11 : nwB wy_ops.toArray 11 = true := by kernel_rfl
theorem wy_nw12 : nwB wy_ops.toArray 12 = true := by kernel_rfl
set_option maxRecDepth 100000 in
set_option maxHeartbeats 4000000 in
theorem wy_obs (w0 : World) (A A2 A7 A10 : Option Addr) (n c m c2 m7 c7 m10 c10 : Nat) (xs ys : List Int) (most : Int) (hr : ReadsInt w0 .u8 A n xs) (hr2 : ReadsInt w0 .u8 A2 m ys) (h7 : ReadsInt w0 .u8 A7 m7 (takeB xs most).1) (h10 : ReadsInt w0 .u8 A10 m10 (takeB xs most).1) (hl : n + m ≤ 140737488351232) (Q : Exit → Act → World → Prop) (a0 : Act) (hi0 : a0.tmps.getD 0 undef = .slice A n c) (hi1 : a0.tmps.getD 1 undef = .slice A2 m c2) (hi7 : a0.tmps.getD 7 undef = .slice A7 m7 c7) (hi8 : a0.tmps.getD 8 undef = .int .i64 (takeB xs most).2.1) (hi9 : a0.tmps.getD 9 undef = .int .i64 (takeB xs most).2.2) (hi10 : a0.tmps.getD 10 undef = .slice A10 m10 c10) (hi11 : a0.tmps.getD 11 undef = .int .i64 (takeB xs most).2.1) (hi12 : a0.tmps.getD 12 undef = .int .i64 (takeB xs most).2.2) :
    Obs Try.prog wy_ops.toArray Q w0.heap.size wy_C (wy_F w0 A A2 A7 A10 n c m c2 m7 c7 m10 c10 xs ys most) a0 w0 wy_ops.toArray.toList 0 := by
  have nw0 := wy_nw0
  have nw1 := wy_nw1
  have nw7 := wy_nw7
  have nw8 := wy_nw8
  have nw9 := wy_nw9
  have nw10 := wy_nw10
  have nw11 := wy_nw11
  have nw12 := wy_nw12
  refine ⟨?_, ?_, ?_, ?_, ?_, ?_, ?_, ?_, ?_, ?_, ?_, ?_, ?_, ?_, ?_, ?_, ?_, ?_, ?_, ?_, ?_, ?_, ?_, ?_, ?_, ?_, ?_, ?_, ?_, ?_, ?_, ?_, trivial⟩
  · refine ⟨stable_det _, ?_⟩
    intro a w O hk
    have e7 : a.tmps.getD 7 undef = .slice A7 m7 c7 := (hk.init 7 (initialB_of_nw nw7)).trans hi7
    exact ob_move rfl e7 (wanted_none rfl) rfl
  · refine ⟨stable_det _, ?_⟩
    intro a w O hk
    have e27 : a.tmps.getD 27 undef = .slice A7 m7 c7 := hk.fact 0 _ 27 rfl rfl rfl rfl
    exact ob_convert rfl e27 (string_of_reads Try.underlying22 Try.underlying5 Try.underlying9 (h7.below hk.world)) (wanted_none rfl) rfl
  · refine ⟨stable_det _, ?_⟩
    intro a w O hk
    have e10 : a.tmps.getD 10 undef = .slice A10 m10 c10 := (hk.init 10 (initialB_of_nw nw10)).trans hi10
    exact ob_move rfl e10 (wanted_none rfl) rfl
  · refine ⟨stable_det _, ?_⟩
    intro a w O hk
    have e29 : a.tmps.getD 29 undef = .slice A10 m10 c10 := hk.fact 2 _ 29 rfl rfl rfl rfl
    exact ob_convert rfl e29 (string_of_reads Try.underlying22 Try.underlying5 Try.underlying9 (h10.below hk.world)) (wanted_none rfl) rfl
  · refine ⟨stable_det _, ?_⟩
    intro a w O hk
    have e28 : a.tmps.getD 28 undef = .string (strOfNums (takeB xs most).1) := hk.fact 1 _ 28 rfl rfl rfl rfl
    have e30 : a.tmps.getD 30 undef = .string (strOfNums (takeB xs most).1) := hk.fact 3 _ 30 rfl rfl rfl rfl
    exact ob_eqlStr rfl e28 e30 rfl (wanted_none rfl) rfl
  · refine ⟨stable_det _, ?_⟩
    intro a w O hk
    have e31 : a.tmps.getD 31 undef = .bool true := hk.fact 4 _ 31 rfl rfl rfl rfl
    exact ob_move rfl e31 (wanted_none rfl) rfl
  · refine ⟨stable_det _, ?_⟩
    intro a w O hk
    have e8 : a.tmps.getD 8 undef = .int .i64 (takeB xs most).2.1 := (hk.init 8 (initialB_of_nw nw8)).trans hi8
    have e32 : a.tmps.getD 32 undef = .bool true := hk.fact 5 _ 32 rfl rfl rfl rfl
    exact ob_move rfl e8 (wanted_of rfl rfl rfl e32) rfl
  · refine ⟨stable_det _, ?_⟩
    intro a w O hk
    have e11 : a.tmps.getD 11 undef = .int .i64 (takeB xs most).2.1 := (hk.init 11 (initialB_of_nw nw11)).trans hi11
    have e32 : a.tmps.getD 32 undef = .bool true := hk.fact 5 _ 32 rfl rfl rfl rfl
    exact ob_move rfl e11 (wanted_of rfl rfl rfl e32) rfl
  · refine ⟨stable_det _, ?_⟩
    intro a w O hk
    have e33 : a.tmps.getD 33 undef = .int .i64 (takeB xs most).2.1 := hk.fact 6 _ 33 rfl rfl rfl rfl
    have e34 : a.tmps.getD 34 undef = .int .i64 (takeB xs most).2.1 := hk.fact 7 _ 34 rfl rfl rfl rfl
    have e32 : a.tmps.getD 32 undef = .bool true := hk.fact 5 _ 32 rfl rfl rfl rfl
    exact ob_eqlInt true rfl e33 e34 (by simp) (wanted_of rfl rfl rfl e32) rfl
  · refine ⟨stable_det _, ?_⟩
    intro a w O hk
    have e32 : a.tmps.getD 32 undef = .bool true := hk.fact 5 _ 32 rfl rfl rfl rfl
    have e35 : a.tmps.getD 35 undef = .bool true := hk.fact 8 _ 35 rfl rfl rfl rfl
    exact ob_pick rfl e32 e35 (wanted_none rfl) rfl
  · refine ⟨stable_det _, ?_⟩
    intro a w O hk
    have e36 : a.tmps.getD 36 undef = .bool true := hk.fact 9 _ 36 rfl rfl rfl rfl
    exact ob_move rfl e36 (wanted_none rfl) rfl
  · refine ⟨stable_det _, ?_⟩
    intro a w O hk
    have e9 : a.tmps.getD 9 undef = .int .i64 (takeB xs most).2.2 := (hk.init 9 (initialB_of_nw nw9)).trans hi9
    have e37 : a.tmps.getD 37 undef = .bool true := hk.fact 10 _ 37 rfl rfl rfl rfl
    exact ob_move rfl e9 (wanted_of rfl rfl rfl e37) rfl
  · refine ⟨stable_det _, ?_⟩
    intro a w O hk
    have e12 : a.tmps.getD 12 undef = .int .i64 (takeB xs most).2.2 := (hk.init 12 (initialB_of_nw nw12)).trans hi12
    have e37 : a.tmps.getD 37 undef = .bool true := hk.fact 10 _ 37 rfl rfl rfl rfl
    exact ob_move rfl e12 (wanted_of rfl rfl rfl e37) rfl
  · refine ⟨stable_det _, ?_⟩
    intro a w O hk
    have e38 : a.tmps.getD 38 undef = .int .i64 (takeB xs most).2.2 := hk.fact 11 _ 38 rfl rfl rfl rfl
    have e39 : a.tmps.getD 39 undef = .int .i64 (takeB xs most).2.2 := hk.fact 12 _ 39 rfl rfl rfl rfl
    have e37 : a.tmps.getD 37 undef = .bool true := hk.fact 10 _ 37 rfl rfl rfl rfl
    exact ob_eqlInt true rfl e38 e39 (by simp) (wanted_of rfl rfl rfl e37) rfl
  · refine ⟨stable_det _, ?_⟩
    intro a w O hk
    have e37 : a.tmps.getD 37 undef = .bool true := hk.fact 10 _ 37 rfl rfl rfl rfl
    have e40 : a.tmps.getD 40 undef = .bool true := hk.fact 13 _ 40 rfl rfl rfl rfl
    exact ob_pick rfl e37 e40 (wanted_none rfl) rfl
  · refine ⟨stable_det _, ?_⟩
    intro a w O hk
    have e41 : a.tmps.getD 41 undef = .bool true := hk.fact 14 _ 41 rfl rfl rfl rfl
    exact ob_move rfl e41 (wanted_none rfl) rfl
  · refine ⟨stable_det _, ?_⟩
    intro a w O hk
    have e0 : a.tmps.getD 0 undef = .slice A n c := (hk.init 0 (initialB_of_nw nw0)).trans hi0
    have e42 : a.tmps.getD 42 undef = .bool true := hk.fact 15 _ 42 rfl rfl rfl rfl
    exact ob_move rfl e0 (wanted_of rfl rfl rfl e42) rfl
  · refine ⟨stable_det _, ?_⟩
    intro a w O hk
    have e1 : a.tmps.getD 1 undef = .slice A2 m c2 := (hk.init 1 (initialB_of_nw nw1)).trans hi1
    have e42 : a.tmps.getD 42 undef = .bool true := hk.fact 15 _ 42 rfl rfl rfl rfl
    exact ob_move rfl e1 (wanted_of rfl rfl rfl e42) rfl
  · refine ⟨stable_own _ _ _ _, ?_⟩
    intro a w O hk
    have e43 : a.tmps.getD 43 undef = .slice A n c := hk.fact 16 _ 43 rfl rfl rfl rfl
    have e44 : a.tmps.getD 44 undef = .slice A2 m c2 := hk.fact 17 _ 44 rfl rfl rfl rfl
    have e42 : a.tmps.getD 42 undef = .bool true := hk.fact 15 _ 42 rfl rfl rfl rfl
    refine ob_callFresh #[.slice A n c, .slice A2 m c2] Try.func21 rfl rfl rfl (by show [a.tmps.getD 43 undef, a.tmps.getD 44 undef] = [_, _]; rw [e43, e44]) (wanted_of rfl rfl rfl e42) hk.base ?_
    exact putBytes_calls A A2 n c m c2 xs ys w (hr.below hk.world) (hr2.below hk.world) hl
  · refine ⟨stable_det _, ?_⟩
    intro a w O hk
    have f45 := hk.fact 18 _ 45 rfl rfl rfl rfl
    have g45 := hk.owns 18 rfl rfl
    have e42 : a.tmps.getD 42 undef = .bool true := hk.fact 15 _ 42 rfl rfl rfl rfl
    exact ob_convert rfl rfl (own_string Try.underlying22 Try.underlying5 Try.underlying9 f45.1) (wanted_of rfl rfl rfl e42) rfl
  · refine ⟨stable_own _ _ _ _, ?_⟩
    intro a w O hk
    have e42 : a.tmps.getD 42 undef = .bool true := hk.fact 15 _ 42 rfl rfl rfl rfl
    exact ob_empty (by simp [execOp, go_sem]) (wanted_of rfl rfl rfl e42) hk.base
  · refine ⟨stable_det _, ?_⟩
    intro a w O hk
    have e0 : a.tmps.getD 0 undef = .slice A n c := (hk.init 0 (initialB_of_nw nw0)).trans hi0
    have e42 : a.tmps.getD 42 undef = .bool true := hk.fact 15 _ 42 rfl rfl rfl rfl
    exact ob_move rfl e0 (wanted_of rfl rfl rfl e42) rfl
  · refine ⟨stable_own _ _ _ _, ?_⟩
    intro a w O hk
    have f47 := hk.fact 20 _ 47 rfl rfl rfl rfl
    have g47 := hk.owns 20 rfl rfl
    have e48 : a.tmps.getD 48 undef = .slice A n c := hk.fact 21 _ 48 rfl rfl rfl rfl
    have e42 : a.tmps.getD 42 undef = .bool true := hk.fact 15 _ 42 rfl rfl rfl rfl
    have hxn := hr.1
    refine ob_listGrew 20 (a.tmps.getD 47 undef) (wanted_of rfl rfl rfl e42) (by simp [wy_C]) f47.2 (fun Q' hQ => ?_)
    refine print_append_row (w0 := w) w0.heap.size rfl (.tmp 47) (.tmp 48) 22 5 .u8 1 rfl Try.underlying22 infoU8 (by decide) (a.tmps.getD 47 undef) [] xs A n c rfl e48 f47.1 (hr.below hk.world) ((Below.refl _ _).mono hk.base) hk.base (by simp; omega) ?_
    intro v1 w1 ho _ hg hat
    exact hQ v1 w1 (by simpa using ho) hg hat
  · refine ⟨stable_det _, ?_⟩
    intro a w O hk
    have e1 : a.tmps.getD 1 undef = .slice A2 m c2 := (hk.init 1 (initialB_of_nw nw1)).trans hi1
    have e42 : a.tmps.getD 42 undef = .bool true := hk.fact 15 _ 42 rfl rfl rfl rfl
    exact ob_move rfl e1 (wanted_of rfl rfl rfl e42) rfl
  · refine ⟨stable_own _ _ _ _, ?_⟩
    intro a w O hk
    have f49 := hk.fact 22 _ 49 rfl rfl rfl rfl
    have g49 := hk.owns 22 rfl rfl
    have e50 : a.tmps.getD 50 undef = .slice A2 m c2 := hk.fact 23 _ 50 rfl rfl rfl rfl
    have e42 : a.tmps.getD 42 undef = .bool true := hk.fact 15 _ 42 rfl rfl rfl rfl
    have hxn := hr.1
    refine ob_callGrew 22 (a.tmps.getD 49 undef) #[a.tmps.getD 49 undef, .slice A2 m c2] Try.func22 rfl rfl rfl (by show [a.tmps.getD 49 undef, a.tmps.getD 50 undef] = [_, _]; rw [e50]) (wanted_of rfl rfl rfl e42) (by simp [wy_C]) f49.2 ?_
    exact refPutBytes_calls w0.heap.size _ A2 m c2 xs ys w f49.1 hk.base (hr2.below hk.world) (reads_blocks hr2) (by omega)
  · refine ⟨stable_det _, ?_⟩
    intro a w O hk
    have f51 := hk.fact 24 _ 51 rfl rfl rfl rfl
    have g51 := hk.owns 24 rfl rfl
    have e42 : a.tmps.getD 42 undef = .bool true := hk.fact 15 _ 42 rfl rfl rfl rfl
    exact ob_convert rfl rfl (own_string Try.underlying22 Try.underlying5 Try.underlying9 f51.1) (wanted_of rfl rfl rfl e42) rfl
  · refine ⟨stable_det _, ?_⟩
    intro a w O hk
    have e46 : a.tmps.getD 46 undef = .string (strOfNums (xs ++ putB ys)) := hk.fact 19 _ 46 rfl rfl rfl rfl
    have e52 : a.tmps.getD 52 undef = .string (strOfNums (xs ++ putB ys)) := hk.fact 25 _ 52 rfl rfl rfl rfl
    have e42 : a.tmps.getD 42 undef = .bool true := hk.fact 15 _ 42 rfl rfl rfl rfl
    exact ob_eqlStr rfl e46 e52 rfl (wanted_of rfl rfl rfl e42) rfl
  · refine ⟨stable_det _, ?_⟩
    intro a w O hk
    have e42 : a.tmps.getD 42 undef = .bool true := hk.fact 15 _ 42 rfl rfl rfl rfl
    have e53 : a.tmps.getD 53 undef = .bool true := hk.fact 26 _ 53 rfl rfl rfl rfl
    exact ob_pick rfl e42 e53 (wanted_none rfl) rfl
  · refine ⟨stable_det _, ?_⟩
    intro a w O hk
    have e54 : a.tmps.getD 54 undef = .bool true := hk.fact 27 _ 54 rfl rfl rfl rfl
    exact ob_move rfl e54 (wanted_none rfl) rfl
  · refine ⟨stable_det _, ?_⟩
    intro a w O hk
    have e55 : a.tmps.getD 55 undef = .bool true := hk.fact 28 _ 55 rfl rfl rfl rfl
    refine ob_call #[] Try.func18 rfl rfl rfl rfl (wanted_of rfl rfl rfl e55) ((awake_calls w).mono ?_)
    rintro e w' ⟨rfl, hb⟩
    exact ⟨_, fun _ => False, rfl, rfl, Chg.of_below hb, fun _ h => h.elim⟩
  · refine ⟨stable_det _, ?_⟩
    intro a w O hk
    have e55 : a.tmps.getD 55 undef = .bool true := hk.fact 28 _ 55 rfl rfl rfl rfl
    have e56 : a.tmps.getD 56 undef = .bool true := hk.fact 29 _ 56 rfl rfl rfl rfl
    exact ob_pick rfl e55 e56 (wanted_none rfl) rfl
  · refine ⟨stable_det _, ?_⟩
    intro a w O hk
    have e57 : a.tmps.getD 57 undef = .bool true := hk.fact 30 _ 57 rfl rfl rfl rfl
    exact ob_assign rfl e57 (wanted_none rfl) rfl
set_option maxRecDepth 100000 in
set_option maxHeartbeats 4000000 in
theorem wy_region {Q : Exit → Act → World → Prop} {id : Nat} (w0 : World) (A A2 A7 A10 : Option Addr) (n c m c2 m7 c7 m10 c10 : Nat) (xs ys : List Int) (most : Int) {s2 s3 s4 s5 s6 s13 s14 s15 s16 s17 s18 s19 s20 s21 s22 s23 s24 s25 s26 s27 s28 s29 s30 s31 s32 s33 s34 s35 s36 s37 s38 s39 s40 s41 s42 s43 s44 s45 s46 s47 s48 s49 s50 s51 s52 s53 s54 s55 s56 s57 : Value} (hr : ReadsInt w0 .u8 A n xs) (hr2 : ReadsInt w0 .u8 A2 m ys) (h7 : ReadsInt w0 .u8 A7 m7 (takeB xs most).1) (h10 : ReadsInt w0 .u8 A10 m10 (takeB xs most).1) (hl : n + m ≤ 140737488351232)
    (hend : ∀ (w' : World) (u45 : Value) (O45 : Nat → Prop) (u51 : Value) (O51 : Nat → Prop) (u47 : Value) (u49 : Value), Below w0.heap.size w0 w' → (OwnO w0.heap.size 5 1 (xs ++ putB ys).length (nums .u8 (xs ++ putB ys)) u45 w' O45) → (∀ k, O45 k → w0.heap.size ≤ k ∧ k < w'.heap.size) → (OwnO w0.heap.size 5 1 (xs ++ putB ys).length (nums .u8 (xs ++ putB ys)) u51 w' O51) → (∀ k, O51 k → w0.heap.size ≤ k ∧ k < w'.heap.size) → Q .normal { tmps := ((.slice A n c : Value) :: (.slice A2 m c2 : Value) :: s2 :: s3 :: s4 :: s5 :: (.bool true : Value) :: (.slice A7 m7 c7 : Value) :: (.int .i64 (takeB xs most).2.1 : Value) :: (.int .i64 (takeB xs most).2.2 : Value) :: (.slice A10 m10 c10 : Value) :: (.int .i64 (takeB xs most).2.1 : Value) :: (.int .i64 (takeB xs most).2.2 : Value) :: s13 :: s14 :: s15 :: s16 :: s17 :: s18 :: s19 :: s20 :: s21 :: s22 :: s23 :: s24 :: s25 :: s26 :: (.slice A7 m7 c7 : Value) :: (.string (strOfNums (takeB xs most).1) : Value) :: (.slice A10 m10 c10 : Value) :: (.string (strOfNums (takeB xs most).1) : Value) :: (.bool true : Value) :: (.bool true : Value) :: (.int .i64 (takeB xs most).2.1 : Value) :: (.int .i64 (takeB xs most).2.1 : Value) :: (.bool true : Value) :: (.bool true : Value) :: (.bool true : Value) :: (.int .i64 (takeB xs most).2.2 : Value) :: (.int .i64 (takeB xs most).2.2 : Value) :: (.bool true : Value) :: (.bool true : Value) :: (.bool true : Value) :: (.slice A n c : Value) :: (.slice A2 m c2 : Value) :: u45 :: (.string (strOfNums (xs ++ putB ys)) : Value) :: u47 :: (.slice A n c : Value) :: u49 :: (.slice A2 m c2 : Value) :: u51 :: (.string (strOfNums (xs ++ putB ys)) : Value) :: (.bool true : Value) :: (.bool true : Value) :: (.bool true : Value) :: (.bool true : Value) :: (.bool true : Value) :: ([] : List Value)).toArray, defers := [] } w') :
    (Code.region id wy_ops.toArray true).wp Try.prog Q { tmps := ((.slice A n c : Value) :: (.slice A2 m c2 : Value) :: s2 :: s3 :: s4 :: s5 :: s6 :: (.slice A7 m7 c7 : Value) :: (.int .i64 (takeB xs most).2.1 : Value) :: (.int .i64 (takeB xs most).2.2 : Value) :: (.slice A10 m10 c10 : Value) :: (.int .i64 (takeB xs most).2.1 : Value) :: (.int .i64 (takeB xs most).2.2 : Value) :: s13 :: s14 :: s15 :: s16 :: s17 :: s18 :: s19 :: s20 :: s21 :: s22 :: s23 :: s24 :: s25 :: s26 :: s27 :: s28 :: s29 :: s30 :: s31 :: s32 :: s33 :: s34 :: s35 :: s36 :: s37 :: s38 :: s39 :: s40 :: s41 :: s42 :: s43 :: s44 :: s45 :: s46 :: s47 :: s48 :: s49 :: s50 :: s51 :: s52 :: s53 :: s54 :: s55 :: s56 :: s57 :: ([] : List Value)).toArray, defers := [] } w0 := by
  refine wp_region_inv (by kernel_rfl) (w0.heap.size) wy_C (wy_F w0 A A2 A7 A10 n c m c2 m7 c7 m10 c10 xs ys most) (Nat.le_refl _) (by rfl) (by kernel_rfl) (wy_obs w0.drew A A2 A7 A10 n c m c2 m7 c7 m10 c10 xs ys most hr hr2 h7 h10 hl _ _ rfl rfl rfl rfl rfl rfl rfl rfl) ?_
  intro a w' O hd hs hb hf hsame
  have x0 : a.tmps.getD 0 undef = .slice A n c := hsame 0 (nwB.spec (by kernel_rfl))
  have x1 : a.tmps.getD 1 undef = .slice A2 m c2 := hsame 1 (nwB.spec (by kernel_rfl))
  have x2 : a.tmps.getD 2 undef = s2 := hsame 2 (nwB.spec (by kernel_rfl))
  have x3 : a.tmps.getD 3 undef = s3 := hsame 3 (nwB.spec (by kernel_rfl))
  have x4 : a.tmps.getD 4 undef = s4 := hsame 4 (nwB.spec (by kernel_rfl))
  have x5 : a.tmps.getD 5 undef = s5 := hsame 5 (nwB.spec (by kernel_rfl))
  have x6 : a.tmps.getD 6 undef = .bool true := (hf 31 _ 6 rfl rfl (by decide)).1
  have x7 : a.tmps.getD 7 undef = .slice A7 m7 c7 := hsame 7 (nwB.spec (by kernel_rfl))
  have x8 : a.tmps.getD 8 undef = .int .i64 (takeB xs most).2.1 := hsame 8 (nwB.spec (by kernel_rfl))
  have x9 : a.tmps.getD 9 undef = .int .i64 (takeB xs most).2.2 := hsame 9 (nwB.spec (by kernel_rfl))
  have x10 : a.tmps.getD 10 undef = .slice A10 m10 c10 := hsame 10 (nwB.spec (by kernel_rfl))
  have x11 : a.tmps.getD 11 undef = .int .i64 (takeB xs most).2.1 := hsame 11 (nwB.spec (by kernel_rfl))
  have x12 : a.tmps.getD 12 undef = .int .i64 (takeB xs most).2.2 := hsame 12 (nwB.spec (by kernel_rfl))
  have x13 : a.tmps.getD 13 undef = s13 := hsame 13 (nwB.spec (by kernel_rfl))
  have x14 : a.tmps.getD 14 undef = s14 := hsame 14 (nwB.spec (by kernel_rfl))
  have x15 : a.tmps.getD 15 undef = s15 := hsame 15 (nwB.spec (by kernel_rfl))
  have x16 : a.tmps.getD 16 undef = s16 := hsame 16 (nwB.spec (by kernel_rfl))
  have x17 : a.tmps.getD 17 undef = s17 := hsame 17 (nwB.spec (by kernel_rfl))
  have x18 : a.tmps.getD 18 undef = s18 := hsame 18 (nwB.spec (by kernel_rfl))
  have x19 : a.tmps.getD 19 undef = s19 := hsame 19 (nwB.spec (by kernel_rfl))
  have x20 : a.tmps.getD 20 undef = s20 := hsame 20 (nwB.spec (by kernel_rfl))
  have x21 : a.tmps.getD 21 undef = s21 := hsame 21 (nwB.spec (by kernel_rfl))
  have x22 : a.tmps.getD 22 undef = s22 := hsame 22 (nwB.spec (by kernel_rfl))
  have x23 : a.tmps.getD 23 undef = s23 := hsame 23 (nwB.spec (by kernel_rfl))
  have x24 : a.tmps.getD 24 undef = s24 := hsame 24 (nwB.spec (by kernel_rfl))
  have x25 : a.tmps.getD 25 undef = s25 := hsame 25 (nwB.spec (by kernel_rfl))
  have x26 : a.tmps.getD 26 undef = s26 := hsame 26 (nwB.spec (by kernel_rfl))
  have x27 : a.tmps.getD 27 undef = .slice A7 m7 c7 := (hf 0 _ 27 rfl rfl (by decide)).1
  have x28 : a.tmps.getD 28 undef = .string (strOfNums (takeB xs most).1) := (hf 1 _ 28 rfl rfl (by decide)).1
  have x29 : a.tmps.getD 29 undef = .slice A10 m10 c10 := (hf 2 _ 29 rfl rfl (by decide)).1
  have x30 : a.tmps.getD 30 undef = .string (strOfNums (takeB xs most).1) := (hf 3 _ 30 rfl rfl (by decide)).1
  have x31 : a.tmps.getD 31 undef = .bool true := (hf 4 _ 31 rfl rfl (by decide)).1
  have x32 : a.tmps.getD 32 undef = .bool true := (hf 5 _ 32 rfl rfl (by decide)).1
  have x33 : a.tmps.getD 33 undef = .int .i64 (takeB xs most).2.1 := (hf 6 _ 33 rfl rfl (by decide)).1
  have x34 : a.tmps.getD 34 undef = .int .i64 (takeB xs most).2.1 := (hf 7 _ 34 rfl rfl (by decide)).1
  have x35 : a.tmps.getD 35 undef = .bool true := (hf 8 _ 35 rfl rfl (by decide)).1
  have x36 : a.tmps.getD 36 undef = .bool true := (hf 9 _ 36 rfl rfl (by decide)).1
  have x37 : a.tmps.getD 37 undef = .bool true := (hf 10 _ 37 rfl rfl (by decide)).1
  have x38 : a.tmps.getD 38 undef = .int .i64 (takeB xs most).2.2 := (hf 11 _ 38 rfl rfl (by decide)).1
  have x39 : a.tmps.getD 39 undef = .int .i64 (takeB xs most).2.2 := (hf 12 _ 39 rfl rfl (by decide)).1
  have x40 : a.tmps.getD 40 undef = .bool true := (hf 13 _ 40 rfl rfl (by decide)).1
  have x41 : a.tmps.getD 41 undef = .bool true := (hf 14 _ 41 rfl rfl (by decide)).1
  have x42 : a.tmps.getD 42 undef = .bool true := (hf 15 _ 42 rfl rfl (by decide)).1
  have x43 : a.tmps.getD 43 undef = .slice A n c := (hf 16 _ 43 rfl rfl (by decide)).1
  have x44 : a.tmps.getD 44 undef = .slice A2 m c2 := (hf 17 _ 44 rfl rfl (by decide)).1
  have x46 : a.tmps.getD 46 undef = .string (strOfNums (xs ++ putB ys)) := (hf 19 _ 46 rfl rfl (by decide)).1
  have x48 : a.tmps.getD 48 undef = .slice A n c := (hf 21 _ 48 rfl rfl (by decide)).1
  have x50 : a.tmps.getD 50 undef = .slice A2 m c2 := (hf 23 _ 50 rfl rfl (by decide)).1
  have x52 : a.tmps.getD 52 undef = .string (strOfNums (xs ++ putB ys)) := (hf 25 _ 52 rfl rfl (by decide)).1
  have x53 : a.tmps.getD 53 undef = .bool true := (hf 26 _ 53 rfl rfl (by decide)).1
  have x54 : a.tmps.getD 54 undef = .bool true := (hf 27 _ 54 rfl rfl (by decide)).1
  have x55 : a.tmps.getD 55 undef = .bool true := (hf 28 _ 55 rfl rfl (by decide)).1
  have x56 : a.tmps.getD 56 undef = .bool true := (hf 29 _ 56 rfl rfl (by decide)).1
  have x57 : a.tmps.getD 57 undef = .bool true := (hf 30 _ 57 rfl rfl (by decide)).1
  have hl : a.tmps = ((.slice A n c : Value) :: (.slice A2 m c2 : Value) :: s2 :: s3 :: s4 :: s5 :: (.bool true : Value) :: (.slice A7 m7 c7 : Value) :: (.int .i64 (takeB xs most).2.1 : Value) :: (.int .i64 (takeB xs most).2.2 : Value) :: (.slice A10 m10 c10 : Value) :: (.int .i64 (takeB xs most).2.1 : Value) :: (.int .i64 (takeB xs most).2.2 : Value) :: s13 :: s14 :: s15 :: s16 :: s17 :: s18 :: s19 :: s20 :: s21 :: s22 :: s23 :: s24 :: s25 :: s26 :: (.slice A7 m7 c7 : Value) :: (.string (strOfNums (takeB xs most).1) : Value) :: (.slice A10 m10 c10 : Value) :: (.string (strOfNums (takeB xs most).1) : Value) :: (.bool true : Value) :: (.bool true : Value) :: (.int .i64 (takeB xs most).2.1 : Value) :: (.int .i64 (takeB xs most).2.1 : Value) :: (.bool true : Value) :: (.bool true : Value) :: (.bool true : Value) :: (.int .i64 (takeB xs most).2.2 : Value) :: (.int .i64 (takeB xs most).2.2 : Value) :: (.bool true : Value) :: (.bool true : Value) :: (.bool true : Value) :: (.slice A n c : Value) :: (.slice A2 m c2 : Value) :: (a.tmps.getD 45 undef : Value) :: (.string (strOfNums (xs ++ putB ys)) : Value) :: (a.tmps.getD 47 undef : Value) :: (.slice A n c : Value) :: (a.tmps.getD 49 undef : Value) :: (.slice A2 m c2 : Value) :: (a.tmps.getD 51 undef : Value) :: (.string (strOfNums (xs ++ putB ys)) : Value) :: (.bool true : Value) :: (.bool true : Value) :: (.bool true : Value) :: (.bool true : Value) :: (.bool true : Value) :: ([] : List Value)).toArray := by
    have h := lit a.tmps 58 hs
    have e : ((List.range 58).map (fun i => a.tmps.getD i undef)).toArray = ((a.tmps.getD 0 undef : Value) :: (a.tmps.getD 1 undef : Value) :: (a.tmps.getD 2 undef : Value) :: (a.tmps.getD 3 undef : Value) :: (a.tmps.getD 4 undef : Value) :: (a.tmps.getD 5 undef : Value) :: (a.tmps.getD 6 undef : Value) :: (a.tmps.getD 7 undef : Value) :: (a.tmps.getD 8 undef : Value) :: (a.tmps.getD 9 undef : Value) :: (a.tmps.getD 10 undef : Value) :: (a.tmps.getD 11 undef : Value) :: (a.tmps.getD 12 undef : Value) :: (a.tmps.getD 13 undef : Value) :: (a.tmps.getD 14 undef : Value) :: (a.tmps.getD 15 undef : Value) :: (a.tmps.getD 16 undef : Value) :: (a.tmps.getD 17 undef : Value) :: (a.tmps.getD 18 undef : Value) :: (a.tmps.getD 19 undef : Value) :: (a.tmps.getD 20 undef : Value) :: (a.tmps.getD 21 undef : Value) :: (a.tmps.getD 22 undef : Value) :: (a.tmps.getD 23 undef : Value) :: (a.tmps.getD 24 undef : Value) :: (a.tmps.getD 25 undef : Value) :: (a.tmps.getD 26 undef : Value) :: (a.tmps.getD 27 undef : Value) :: (a.tmps.getD 28 undef : Value) :: (a.tmps.getD 29 undef : Value) :: (a.tmps.getD 30 undef : Value) :: (a.tmps.getD 31 undef : Value) :: (a.tmps.getD 32 undef : Value) :: (a.tmps.getD 33 undef : Value) :: (a.tmps.getD 34 undef : Value) :: (a.tmps.getD 35 undef : Value) :: (a.tmps.getD 36 undef : Value) :: (a.tmps.getD 37 undef : Value) :: (a.tmps.getD 38 undef : Value) :: (a.tmps.getD 39 undef : Value) :: (a.tmps.getD 40 undef : Value) :: (a.tmps.getD 41 undef : Value) :: (a.tmps.getD 42 undef : Value) :: (a.tmps.getD 43 undef : Value) :: (a.tmps.getD 44 undef : Value) :: (a.tmps.getD 45 undef : Value) :: (a.tmps.getD 46 undef : Value) :: (a.tmps.getD 47 undef : Value) :: (a.tmps.getD 48 undef : Value) :: (a.tmps.getD 49 undef : Value) :: (a.tmps.getD 50 undef : Value) :: (a.tmps.getD 51 undef : Value) :: (a.tmps.getD 52 undef : Value) :: (a.tmps.getD 53 undef : Value) :: (a.tmps.getD 54 undef : Value) :: (a.tmps.getD 55 undef : Value) :: (a.tmps.getD 56 undef : Value) :: (a.tmps.getD 57 undef : Value) :: ([] : List Value)).toArray := rfl
    rw [e, x0, x1, x2, x3, x4, x5, x6, x7, x8, x9, x10, x11, x12, x13, x14, x15, x16, x17, x18, x19, x20, x21, x22, x23, x24, x25, x26, x27, x28, x29, x30, x31, x32, x33, x34, x35, x36, x37, x38, x39, x40, x41, x42, x43, x44, x46, x48, x50, x52, x53, x54, x55, x56, x57] at h
    exact h
  obtain ⟨tmps, defers⟩ := a
  obtain rfl : defers = [] := hd
  have hl' : tmps = _ := hl
  rw [hl']
  exact hend w' _ (O 18) _ (O 24) _ _ ⟨hb.os, hb.tape, hb.output, hb.size, hb.block⟩ (hf 18 _ 45 rfl rfl (by decide)).1 (hf 18 _ 45 rfl rfl (by decide)).2 (hf 24 _ 51 rfl rfl (by decide)).1 (hf 24 _ 51 rfl rfl (by decide)).2

end Go.Proofs.Ytcgmfbefikpkbaa
