/- Odd counts: the region of the law's test. -/
import Derived.Test.YtcgmfbefikpkbaaWireO
namespace Go.Proofs.Ytcgmfbefikpkbaa
open Go.RowKit Go.Proofs.YtcgmfbefikpkbaaW.PrintWords Go.RegionInvYtcgmfbefikpkbaa
set_option linter.unusedVariables false

def woin_ops : List Oper := [
  { dst := some 60, op := Go.Op.move (Go.Operand.tmp 11), type := 24, pos := "law.go:92", after := #[], guard := none },
  { dst := some 61, op := Go.Op.binOp Go.BinOp.eql 24 (Go.Operand.tmp 60) (Go.Operand.const (Go.Value.int Go.IntKind.i64 1)) 24, type := 4, pos := "law.go:92", after := #[{ on := 0, ground := Go.Ground.data }], guard := none },
  { dst := some 62, op := Go.Op.move (Go.Operand.tmp 61), type := 4, pos := "law.go:92", after := #[{ on := 1, ground := Go.Ground.data }], guard := none },
  { dst := some 63, op := Go.Op.move (Go.Operand.tmp 13), type := 24, pos := "law.go:92", after := #[{ on := 2, ground := Go.Ground.guard }], guard := some (2, true) },
  { dst := some 64, op := Go.Op.binOp Go.BinOp.eql 24 (Go.Operand.tmp 63) (Go.Operand.const (Go.Value.int Go.IntKind.i64 1)) 24, type := 4, pos := "law.go:92", after := #[{ on := 3, ground := Go.Ground.data }, { on := 2, ground := Go.Ground.guard }], guard := some (2, true) },
  { dst := some 65, op := Go.Op.pick (Go.Operand.tmp 62) (Go.Operand.tmp 64) (Go.Operand.const (Go.Value.bool false)), type := 4, pos := "law.go:92", after := #[{ on := 2, ground := Go.Ground.data }, { on := 4, ground := Go.Ground.data }], guard := none },
  { dst := some 66, op := Go.Op.move (Go.Operand.tmp 65), type := 4, pos := "law.go:92", after := #[{ on := 5, ground := Go.Ground.data }, { on := 2, ground := Go.Ground.chain }], guard := none },
  { dst := some 67, op := Go.Op.move (Go.Operand.tmp 17), type := 24, pos := "law.go:92", after := #[{ on := 6, ground := Go.Ground.guard }], guard := some (6, true) },
  { dst := some 68, op := Go.Op.binOp Go.BinOp.eql 24 (Go.Operand.tmp 67) (Go.Operand.const (Go.Value.int Go.IntKind.i64 0)) 24, type := 4, pos := "law.go:92", after := #[{ on := 7, ground := Go.Ground.data }, { on := 6, ground := Go.Ground.guard }], guard := some (6, true) },
  { dst := some 69, op := Go.Op.load 3 (Go.Operand.tmp 3), type := 3, pos := "law.go:92", after := #[{ on := 6, ground := Go.Ground.guard }], guard := some (6, true) },
  { dst := some 70, op := Go.Op.binOp Go.BinOp.geq 3 (Go.Operand.tmp 69) (Go.Operand.const (Go.Value.int Go.IntKind.i64 1)) 3, type := 4, pos := "law.go:92", after := #[{ on := 9, ground := Go.Ground.data }, { on := 6, ground := Go.Ground.guard }], guard := some (6, true) },
  { dst := some 71, op := Go.Op.move (Go.Operand.tmp 70), type := 4, pos := "law.go:92", after := #[{ on := 10, ground := Go.Ground.data }, { on := 6, ground := Go.Ground.chain }, { on := 6, ground := Go.Ground.guard }], guard := some (6, true) },
  { dst := some 72, op := Go.Op.load 3 (Go.Operand.tmp 3), type := 3, pos := "law.go:92", after := #[{ on := 11, ground := Go.Ground.guard }], guard := some (11, true) },
  { dst := some 73, op := Go.Op.move (Go.Operand.tmp 0), type := 22, pos := "law.go:92", after := #[{ on := 11, ground := Go.Ground.guard }], guard := some (11, true) },
  { dst := some 74, op := Go.Op.call { callee := Go.Callee.builtin Go.Builtin.len, args := #[Go.Operand.tmp 73], argTypes := #[22] }, type := 3, pos := "law.go:92", after := #[{ on := 13, ground := Go.Ground.data }, { on := 11, ground := Go.Ground.guard }], guard := some (11, true) },
  { dst := some 75, op := Go.Op.binOp Go.BinOp.leq 3 (Go.Operand.tmp 72) (Go.Operand.tmp 74) 3, type := 4, pos := "law.go:92", after := #[{ on := 12, ground := Go.Ground.data }, { on := 14, ground := Go.Ground.data }, { on := 11, ground := Go.Ground.guard }], guard := some (11, true) },
  { dst := some 76, op := Go.Op.pick (Go.Operand.tmp 71) (Go.Operand.tmp 75) (Go.Operand.const (Go.Value.bool false)), type := 4, pos := "law.go:92", after := #[{ on := 11, ground := Go.Ground.data }, { on := 15, ground := Go.Ground.data }, { on := 6, ground := Go.Ground.guard }], guard := some (6, true) },
  { dst := some 77, op := Go.Op.binOp Go.BinOp.eql 4 (Go.Operand.tmp 68) (Go.Operand.tmp 76) 4, type := 4, pos := "law.go:92", after := #[{ on := 8, ground := Go.Ground.data }, { on := 16, ground := Go.Ground.data }, { on := 6, ground := Go.Ground.guard }], guard := some (6, true) },
  { dst := some 78, op := Go.Op.pick (Go.Operand.tmp 66) (Go.Operand.tmp 77) (Go.Operand.const (Go.Value.bool false)), type := 4, pos := "law.go:92", after := #[{ on := 6, ground := Go.Ground.data }, { on := 17, ground := Go.Ground.data }], guard := none },
  { dst := some 79, op := Go.Op.move (Go.Operand.tmp 78), type := 4, pos := "law.go:92", after := #[{ on := 18, ground := Go.Ground.data }, { on := 11, ground := Go.Ground.chain }], guard := none },
  { dst := some 80, op := Go.Op.move (Go.Operand.tmp 17), type := 24, pos := "law.go:92", after := #[{ on := 19, ground := Go.Ground.guard }], guard := some (19, true) },
  { dst := some 81, op := Go.Op.binOp Go.BinOp.eql 24 (Go.Operand.tmp 80) (Go.Operand.const (Go.Value.int Go.IntKind.i64 0)) 24, type := 4, pos := "law.go:92", after := #[{ on := 20, ground := Go.Ground.data }, { on := 19, ground := Go.Ground.guard }], guard := some (19, true) },
  { dst := some 82, op := Go.Op.move (Go.Operand.tmp 81), type := 4, pos := "law.go:92", after := #[{ on := 21, ground := Go.Ground.data }, { on := 19, ground := Go.Ground.chain }, { on := 19, ground := Go.Ground.guard }], guard := some (19, true) },
  { dst := some 83, op := Go.Op.move (Go.Operand.tmp 17), type := 24, pos := "law.go:92", after := #[{ on := 22, ground := Go.Ground.guard }], guard := some (22, false) },
  { dst := some 84, op := Go.Op.binOp Go.BinOp.eql 24 (Go.Operand.tmp 83) (Go.Operand.const (Go.Value.int Go.IntKind.i64 4)) 24, type := 4, pos := "law.go:92", after := #[{ on := 23, ground := Go.Ground.data }, { on := 22, ground := Go.Ground.guard }], guard := some (22, false) },
  { dst := some 85, op := Go.Op.pick (Go.Operand.tmp 82) (Go.Operand.const (Go.Value.bool true)) (Go.Operand.tmp 84), type := 4, pos := "law.go:92", after := #[{ on := 22, ground := Go.Ground.data }, { on := 24, ground := Go.Ground.data }, { on := 19, ground := Go.Ground.guard }], guard := some (19, true) },
  { dst := some 86, op := Go.Op.pick (Go.Operand.tmp 79) (Go.Operand.tmp 85) (Go.Operand.const (Go.Value.bool false)), type := 4, pos := "law.go:92", after := #[{ on := 19, ground := Go.Ground.data }, { on := 25, ground := Go.Ground.data }], guard := none },
  { dst := some 87, op := Go.Op.move (Go.Operand.tmp 86), type := 4, pos := "law.go:92", after := #[{ on := 26, ground := Go.Ground.data }, { on := 22, ground := Go.Ground.chain }], guard := none },
  { dst := some 88, op := Go.Op.move (Go.Operand.tmp 0), type := 22, pos := "law.go:92", after := #[{ on := 27, ground := Go.Ground.guard }], guard := some (27, true) },
  { dst := some 89, op := Go.Op.buildSlice 56 1 #[(0, Go.Operand.const (Go.Value.int Go.IntKind.i64 1))], type := 56, pos := "law.go:92", after := #[{ on := 27, ground := Go.Ground.guard }], guard := some (27, true) },
  { dst := some 90, op := Go.Op.call { callee := Go.Callee.value (Go.Operand.func 33), args := #[Go.Operand.tmp 88, Go.Operand.tmp 89, Go.Operand.const Go.Value.nilFunc], argTypes := #[22, 56, 64] }, type := 22, pos := "law.go:92", after := #[{ on := 28, ground := Go.Ground.data }, { on := 29, ground := Go.Ground.data }, { on := 27, ground := Go.Ground.chain }, { on := 27, ground := Go.Ground.guard }], guard := some (27, true) },
  { dst := some 91, op := Go.Op.convert 22 9 (Go.Operand.tmp 90), type := 9, pos := "law.go:92", after := #[{ on := 30, ground := Go.Ground.data }, { on := 27, ground := Go.Ground.guard }], guard := some (27, true) },
  { dst := some 92, op := Go.Op.move (Go.Operand.tmp 0), type := 22, pos := "law.go:92", after := #[{ on := 27, ground := Go.Ground.guard }], guard := some (27, true) },
  { dst := some 93, op := Go.Op.convert 22 9 (Go.Operand.tmp 92), type := 9, pos := "law.go:92", after := #[{ on := 32, ground := Go.Ground.data }, { on := 27, ground := Go.Ground.guard }], guard := some (27, true) },
  { dst := some 94, op := Go.Op.binOp Go.BinOp.eql 9 (Go.Operand.tmp 91) (Go.Operand.tmp 93) 9, type := 4, pos := "law.go:92", after := #[{ on := 31, ground := Go.Ground.data }, { on := 33, ground := Go.Ground.data }, { on := 27, ground := Go.Ground.guard }], guard := some (27, true) },
  { dst := some 95, op := Go.Op.pick (Go.Operand.tmp 87) (Go.Operand.tmp 94) (Go.Operand.const (Go.Value.bool false)), type := 4, pos := "law.go:92", after := #[{ on := 27, ground := Go.Ground.data }, { on := 34, ground := Go.Ground.data }], guard := none },
  { dst := some 96, op := Go.Op.move (Go.Operand.tmp 95), type := 4, pos := "law.go:92", after := #[{ on := 35, ground := Go.Ground.data }, { on := 30, ground := Go.Ground.chain }], guard := none },
  { dst := some 97, op := Go.Op.call { callee := Go.Callee.value (Go.Operand.func 18), args := #[], argTypes := #[] }, type := 4, pos := "law.go:92", after := #[{ on := 36, ground := Go.Ground.chain }, { on := 36, ground := Go.Ground.guard }], guard := some (36, true) },
  { dst := some 98, op := Go.Op.pick (Go.Operand.tmp 96) (Go.Operand.tmp 97) (Go.Operand.const (Go.Value.bool false)), type := 4, pos := "law.go:92", after := #[{ on := 36, ground := Go.Ground.data }, { on := 37, ground := Go.Ground.data }], guard := none },
  { dst := some 4, op := Go.Op.assign (Go.Operand.tmp 98), type := 4, pos := "law.go:92", after := #[{ on := 38, ground := Go.Ground.data }, { on := 37, ground := Go.Ground.chain }, { on := 0, ground := Go.Ground.phase }, { on := 1, ground := Go.Ground.phase }, { on := 2, ground := Go.Ground.phase }, { on := 3, ground := Go.Ground.phase }, { on := 4, ground := Go.Ground.phase }, { on := 5, ground := Go.Ground.phase }, { on := 6, ground := Go.Ground.phase }, { on := 7, ground := Go.Ground.phase }, { on := 8, ground := Go.Ground.phase }, { on := 9, ground := Go.Ground.phase }, { on := 10, ground := Go.Ground.phase }, { on := 11, ground := Go.Ground.phase }, { on := 12, ground := Go.Ground.phase }, { on := 13, ground := Go.Ground.phase }, { on := 14, ground := Go.Ground.phase }, { on := 15, ground := Go.Ground.phase }, { on := 16, ground := Go.Ground.phase }, { on := 17, ground := Go.Ground.phase }, { on := 18, ground := Go.Ground.phase }, { on := 19, ground := Go.Ground.phase }, { on := 20, ground := Go.Ground.phase }, { on := 21, ground := Go.Ground.phase }, { on := 22, ground := Go.Ground.phase }, { on := 23, ground := Go.Ground.phase }, { on := 24, ground := Go.Ground.phase }, { on := 25, ground := Go.Ground.phase }, { on := 26, ground := Go.Ground.phase }, { on := 27, ground := Go.Ground.phase }, { on := 28, ground := Go.Ground.phase }, { on := 29, ground := Go.Ground.phase }, { on := 30, ground := Go.Ground.phase }, { on := 31, ground := Go.Ground.phase }, { on := 32, ground := Go.Ground.phase }, { on := 33, ground := Go.Ground.phase }, { on := 34, ground := Go.Ground.phase }, { on := 35, ground := Go.Ground.phase }, { on := 36, ground := Go.Ground.phase }, { on := 37, ground := Go.Ground.phase }, { on := 38, ground := Go.Ground.phase }], guard := none }]
def woin_F (w0 : World) (A : Option Addr) (n c g : Nat) (xs : List Int) (k : Int) : Nat → Value → World → (Nat → Prop) → Prop := fun i => match i with
  | 0 => fun v _ _ => v = .int .i64 1
  | 1 => fun v _ _ => v = .bool true
  | 2 => fun v _ _ => v = .bool true
  | 3 => fun v _ _ => v = .int .i64 1
  | 4 => fun v _ _ => v = .bool true
  | 5 => fun v _ _ => v = .bool true
  | 6 => fun v _ _ => v = .bool true
  | 7 => fun v _ _ => v = .int .i64 0
  | 8 => fun v _ _ => v = .bool true
  | 9 => fun v _ _ => v = .int .i64 k
  | 10 => fun v _ _ => v = .bool true
  | 11 => fun v _ _ => v = .bool true
  | 12 => fun v _ _ => v = .int .i64 k
  | 13 => fun v _ _ => v = .slice A n c
  | 14 => fun v _ _ => v = .int .i64 (n : Int)
  | 15 => fun v _ _ => v = .bool true
  | 16 => fun v _ _ => v = .bool true
  | 17 => fun v _ _ => v = .bool true
  | 18 => fun v _ _ => v = .bool true
  | 19 => fun v _ _ => v = .bool true
  | 20 => fun v _ _ => v = .int .i64 0
  | 21 => fun v _ _ => v = .bool true
  | 22 => fun v _ _ => v = .bool true
  | 23 => fun v _ _ => v = undef
  | 24 => fun v _ _ => v = undef
  | 25 => fun v _ _ => v = .bool true
  | 26 => fun v _ _ => v = .bool true
  | 27 => fun v _ _ => v = .bool true
  | 28 => fun v _ _ => v = .slice A n c
  | 29 => fun v w O => True
  | 30 => fun v w O => OwnO w0.heap.size 5 1 xs.length (nums .u8 xs) v w O
  | 31 => fun v _ _ => v = .string (strOfNums xs)
  | 32 => fun v _ _ => v = .slice A n c
  | 33 => fun v _ _ => v = .string (strOfNums xs)
  | 34 => fun v _ _ => v = .bool true
  | 35 => fun v _ _ => v = .bool true
  | 36 => fun v _ _ => v = .bool true
  | 37 => fun v _ _ => v = .bool true
  | 38 => fun v _ _ => v = .bool true
  | 39 => fun v _ _ => v = .bool true
  | _ => fun _ _ _ => True
def woin_C : Nat → List Nat := fun i => match i with
  | _ => []
theorem woin_nw0 : nwB woin_ops.toArray 0 = true := by kernel_rfl
theorem woin_nw3 : nwB woin_ops.toArray 3 = true := by kernel_rfl
theorem woin_nw11 : nwB woin_ops.toArray 11 = true := by kernel_rfl
theorem woin_nw13 : nwB woin_ops.toArray 13 = true := by kernel_rfl
theorem woin_nw17 : nwB woin_ops.toArray 17 = true := by kernel_rfl
set_option maxRecDepth 100000 in
set_option maxHeartbeats 4000000 in
theorem woin_obs (w0 : World) (A : Option Addr) (n c g : Nat) (xs : List Int) (k : Int) (hr : ReadsInt w0 .u8 A n xs) (hg : w0.cell? ⟨g, 0, none⟩ = some (.int .i64 k)) (hl : n ≤ 140737488355000) (h1 : 1 ≤ k) (h2 : k ≤ n) (Q : Exit → Act → World → Prop) (a0 : Act) (hi0 : a0.tmps.getD 0 undef = .slice A n c) (hi3 : a0.tmps.getD 3 undef = .pointer (some ⟨g, 0, none⟩)) (hi11 : a0.tmps.getD 11 undef = .int .i64 1) (hi13 : a0.tmps.getD 13 undef = .int .i64 1) (hi17 : a0.tmps.getD 17 undef = .int .i64 0) :
    Obs Try.prog woin_ops.toArray Q w0.heap.size woin_C (woin_F w0 A n c g xs k) a0 w0 woin_ops.toArray.toList 0 := by
  have nw0 := woin_nw0
  have nw3 := woin_nw3
  have nw11 := woin_nw11
  have nw13 := woin_nw13
  have nw17 := woin_nw17
  refine ⟨?_, ?_, ?_, ?_, ?_, ?_, ?_, ?_, ?_, ?_, ?_, ?_, ?_, ?_, ?_, ?_, ?_, ?_, ?_, ?_, ?_, ?_, ?_, ?_, ?_, ?_, ?_, ?_, ?_, ?_, ?_, ?_, ?_, ?_, ?_, ?_, ?_, ?_, ?_, ?_, trivial⟩
  · refine ⟨stable_det _, ?_⟩
    intro a w O hk
    have e11 : a.tmps.getD 11 undef = .int .i64 1 := (hk.init 11 (initialB_of_nw nw11)).trans hi11
    exact ob_move rfl e11 (wanted_none rfl) rfl
  · refine ⟨stable_det _, ?_⟩
    intro a w O hk
    have e60 : a.tmps.getD 60 undef = .int .i64 1 := hk.fact 0 _ 60 rfl rfl rfl rfl
    exact ob_eqlInt true rfl e60 rfl (by simp) (wanted_none rfl) rfl
  · refine ⟨stable_det _, ?_⟩
    intro a w O hk
    have e61 : a.tmps.getD 61 undef = .bool true := hk.fact 1 _ 61 rfl rfl rfl rfl
    exact ob_move rfl e61 (wanted_none rfl) rfl
  · refine ⟨stable_det _, ?_⟩
    intro a w O hk
    have e13 : a.tmps.getD 13 undef = .int .i64 1 := (hk.init 13 (initialB_of_nw nw13)).trans hi13
    have e62 : a.tmps.getD 62 undef = .bool true := hk.fact 2 _ 62 rfl rfl rfl rfl
    exact ob_move rfl e13 (wanted_of rfl rfl rfl e62) rfl
  · refine ⟨stable_det _, ?_⟩
    intro a w O hk
    have e63 : a.tmps.getD 63 undef = .int .i64 1 := hk.fact 3 _ 63 rfl rfl rfl rfl
    have e62 : a.tmps.getD 62 undef = .bool true := hk.fact 2 _ 62 rfl rfl rfl rfl
    exact ob_eqlInt true rfl e63 rfl (by simp) (wanted_of rfl rfl rfl e62) rfl
  · refine ⟨stable_det _, ?_⟩
    intro a w O hk
    have e62 : a.tmps.getD 62 undef = .bool true := hk.fact 2 _ 62 rfl rfl rfl rfl
    have e64 : a.tmps.getD 64 undef = .bool true := hk.fact 4 _ 64 rfl rfl rfl rfl
    exact ob_pick rfl e62 e64 (wanted_none rfl) rfl
  · refine ⟨stable_det _, ?_⟩
    intro a w O hk
    have e65 : a.tmps.getD 65 undef = .bool true := hk.fact 5 _ 65 rfl rfl rfl rfl
    exact ob_move rfl e65 (wanted_none rfl) rfl
  · refine ⟨stable_det _, ?_⟩
    intro a w O hk
    have e17 : a.tmps.getD 17 undef = .int .i64 0 := (hk.init 17 (initialB_of_nw nw17)).trans hi17
    have e66 : a.tmps.getD 66 undef = .bool true := hk.fact 6 _ 66 rfl rfl rfl rfl
    exact ob_move rfl e17 (wanted_of rfl rfl rfl e66) rfl
  · refine ⟨stable_det _, ?_⟩
    intro a w O hk
    have e67 : a.tmps.getD 67 undef = .int .i64 0 := hk.fact 7 _ 67 rfl rfl rfl rfl
    have e66 : a.tmps.getD 66 undef = .bool true := hk.fact 6 _ 66 rfl rfl rfl rfl
    exact ob_eqlInt true rfl e67 rfl (by decide) (wanted_of rfl rfl rfl e66) rfl
  · refine ⟨stable_det _, ?_⟩
    intro a w O hk
    have e3 : a.tmps.getD 3 undef = .pointer (some ⟨g, 0, none⟩) := (hk.init 3 (initialB_of_nw nw3)).trans hi3
    have e66 : a.tmps.getD 66 undef = .bool true := hk.fact 6 _ 66 rfl rfl rfl rfl
    have hc := (hk.world.cell (p := ⟨g, 0, none⟩) (World.block_lt_of_cell? w0 _ hg)).trans hg
    exact ob_loadInt rfl e3 Try.underlying3 hc (wanted_of rfl rfl rfl e66) rfl
  · refine ⟨stable_det _, ?_⟩
    intro a w O hk
    have e69 : a.tmps.getD 69 undef = .int .i64 k := hk.fact 9 _ 69 rfl rfl rfl rfl
    have e66 : a.tmps.getD 66 undef = .bool true := hk.fact 6 _ 66 rfl rfl rfl rfl
    exact ob_bin rfl e69 rfl (run_geqB _ _ _ (by simp; omega)) (by decide) (wanted_of rfl rfl rfl e66) rfl
  · refine ⟨stable_det _, ?_⟩
    intro a w O hk
    have e70 : a.tmps.getD 70 undef = .bool true := hk.fact 10 _ 70 rfl rfl rfl rfl
    have e66 : a.tmps.getD 66 undef = .bool true := hk.fact 6 _ 66 rfl rfl rfl rfl
    exact ob_move rfl e70 (wanted_of rfl rfl rfl e66) rfl
  · refine ⟨stable_det _, ?_⟩
    intro a w O hk
    have e3 : a.tmps.getD 3 undef = .pointer (some ⟨g, 0, none⟩) := (hk.init 3 (initialB_of_nw nw3)).trans hi3
    have e71 : a.tmps.getD 71 undef = .bool true := hk.fact 11 _ 71 rfl rfl rfl rfl
    have hc := (hk.world.cell (p := ⟨g, 0, none⟩) (World.block_lt_of_cell? w0 _ hg)).trans hg
    exact ob_loadInt rfl e3 Try.underlying3 hc (wanted_of rfl rfl rfl e71) rfl
  · refine ⟨stable_det _, ?_⟩
    intro a w O hk
    have e0 : a.tmps.getD 0 undef = .slice A n c := (hk.init 0 (initialB_of_nw nw0)).trans hi0
    have e71 : a.tmps.getD 71 undef = .bool true := hk.fact 11 _ 71 rfl rfl rfl rfl
    exact ob_move rfl e0 (wanted_of rfl rfl rfl e71) rfl
  · refine ⟨stable_det _, ?_⟩
    intro a w O hk
    have e73 : a.tmps.getD 73 undef = .slice A n c := hk.fact 13 _ 73 rfl rfl rfl rfl
    have e71 : a.tmps.getD 71 undef = .bool true := hk.fact 11 _ 71 rfl rfl rfl rfl
    exact ob_len rfl e73 Try.underlying22 (wanted_of rfl rfl rfl e71) rfl
  · refine ⟨stable_det _, ?_⟩
    intro a w O hk
    have e72 : a.tmps.getD 72 undef = .int .i64 k := hk.fact 12 _ 72 rfl rfl rfl rfl
    have e74 : a.tmps.getD 74 undef = .int .i64 (n : Int) := hk.fact 14 _ 74 rfl rfl rfl rfl
    have e71 : a.tmps.getD 71 undef = .bool true := hk.fact 11 _ 71 rfl rfl rfl rfl
    exact ob_bin rfl e72 e74 (run_leqB _ _ _ (by simp; omega)) (by decide) (wanted_of rfl rfl rfl e71) rfl
  · refine ⟨stable_det _, ?_⟩
    intro a w O hk
    have e71 : a.tmps.getD 71 undef = .bool true := hk.fact 11 _ 71 rfl rfl rfl rfl
    have e75 : a.tmps.getD 75 undef = .bool true := hk.fact 15 _ 75 rfl rfl rfl rfl
    have e66 : a.tmps.getD 66 undef = .bool true := hk.fact 6 _ 66 rfl rfl rfl rfl
    exact ob_pick rfl e71 e75 (wanted_of rfl rfl rfl e66) rfl
  · refine ⟨stable_det _, ?_⟩
    intro a w O hk
    have e68 : a.tmps.getD 68 undef = .bool true := hk.fact 8 _ 68 rfl rfl rfl rfl
    have e76 : a.tmps.getD 76 undef = .bool true := hk.fact 16 _ 76 rfl rfl rfl rfl
    have e66 : a.tmps.getD 66 undef = .bool true := hk.fact 6 _ 66 rfl rfl rfl rfl
    exact ob_eqlBool true rfl e68 e76 Try.underlying4 (by decide) (wanted_of rfl rfl rfl e66) rfl
  · refine ⟨stable_det _, ?_⟩
    intro a w O hk
    have e66 : a.tmps.getD 66 undef = .bool true := hk.fact 6 _ 66 rfl rfl rfl rfl
    have e77 : a.tmps.getD 77 undef = .bool true := hk.fact 17 _ 77 rfl rfl rfl rfl
    exact ob_pick rfl e66 e77 (wanted_none rfl) rfl
  · refine ⟨stable_det _, ?_⟩
    intro a w O hk
    have e78 : a.tmps.getD 78 undef = .bool true := hk.fact 18 _ 78 rfl rfl rfl rfl
    exact ob_move rfl e78 (wanted_none rfl) rfl
  · refine ⟨stable_det _, ?_⟩
    intro a w O hk
    have e17 : a.tmps.getD 17 undef = .int .i64 0 := (hk.init 17 (initialB_of_nw nw17)).trans hi17
    have e79 : a.tmps.getD 79 undef = .bool true := hk.fact 19 _ 79 rfl rfl rfl rfl
    exact ob_move rfl e17 (wanted_of rfl rfl rfl e79) rfl
  · refine ⟨stable_det _, ?_⟩
    intro a w O hk
    have e80 : a.tmps.getD 80 undef = .int .i64 0 := hk.fact 20 _ 80 rfl rfl rfl rfl
    have e79 : a.tmps.getD 79 undef = .bool true := hk.fact 19 _ 79 rfl rfl rfl rfl
    exact ob_eqlInt true rfl e80 rfl (by decide) (wanted_of rfl rfl rfl e79) rfl
  · refine ⟨stable_det _, ?_⟩
    intro a w O hk
    have e81 : a.tmps.getD 81 undef = .bool true := hk.fact 21 _ 81 rfl rfl rfl rfl
    have e79 : a.tmps.getD 79 undef = .bool true := hk.fact 19 _ 79 rfl rfl rfl rfl
    exact ob_move rfl e81 (wanted_of rfl rfl rfl e79) rfl
  · refine ⟨stable_det _, ?_⟩
    intro a w O hk
    have e17 : a.tmps.getD 17 undef = .int .i64 0 := (hk.init 17 (initialB_of_nw nw17)).trans hi17
    have e82 : a.tmps.getD 82 undef = .bool true := hk.fact 22 _ 82 rfl rfl rfl rfl
    exact ob_skip (unwanted_of rfl rfl rfl e82 (by decide)) rfl
  · refine ⟨stable_det _, ?_⟩
    intro a w O hk
    have e83 : a.tmps.getD 83 undef = undef := hk.fact 23 _ 83 rfl rfl rfl rfl
    have e82 : a.tmps.getD 82 undef = .bool true := hk.fact 22 _ 82 rfl rfl rfl rfl
    exact ob_skip (unwanted_of rfl rfl rfl e82 (by decide)) rfl
  · refine ⟨stable_det _, ?_⟩
    intro a w O hk
    have e82 : a.tmps.getD 82 undef = .bool true := hk.fact 22 _ 82 rfl rfl rfl rfl
    have e84 : a.tmps.getD 84 undef = undef := hk.fact 24 _ 84 rfl rfl rfl rfl
    have e79 : a.tmps.getD 79 undef = .bool true := hk.fact 19 _ 79 rfl rfl rfl rfl
    exact ob_pick rfl e82 rfl (wanted_of rfl rfl rfl e79) rfl
  · refine ⟨stable_det _, ?_⟩
    intro a w O hk
    have e79 : a.tmps.getD 79 undef = .bool true := hk.fact 19 _ 79 rfl rfl rfl rfl
    have e85 : a.tmps.getD 85 undef = .bool true := hk.fact 25 _ 85 rfl rfl rfl rfl
    exact ob_pick rfl e79 e85 (wanted_none rfl) rfl
  · refine ⟨stable_det _, ?_⟩
    intro a w O hk
    have e86 : a.tmps.getD 86 undef = .bool true := hk.fact 26 _ 86 rfl rfl rfl rfl
    exact ob_move rfl e86 (wanted_none rfl) rfl
  · refine ⟨stable_det _, ?_⟩
    intro a w O hk
    have e0 : a.tmps.getD 0 undef = .slice A n c := (hk.init 0 (initialB_of_nw nw0)).trans hi0
    have e87 : a.tmps.getD 87 undef = .bool true := hk.fact 27 _ 87 rfl rfl rfl rfl
    exact ob_move rfl e0 (wanted_of rfl rfl rfl e87) rfl
  · refine ⟨(fun _ _ _ _ _ _ _ => trivial), ?_⟩
    intro a w O hk
    have e87 : a.tmps.getD 87 undef = .bool true := hk.fact 27 _ 87 rfl rfl rfl rfl
    exact ob_new (fun _ => False) (wanted_of rfl rfl rfl e87) (by simp [execOp, go_sem]; exact ⟨rfl, rfl⟩) ((Below.refl _ _).alloc (Nat.le_refl _) _) trivial (fun _ h => h.elim)
  · refine ⟨stable_own _ _ _ _, ?_⟩
    intro a w O hk
    have e88 : a.tmps.getD 88 undef = .slice A n c := hk.fact 28 _ 88 rfl rfl rfl rfl
    have f89 := hk.fact 29 _ 89 rfl rfl rfl rfl
    have g89 := hk.owns 29 rfl rfl
    have e87 : a.tmps.getD 87 undef = .bool true := hk.fact 27 _ 87 rfl rfl rfl rfl
    refine ob_callFresh #[.slice A n c, a.tmps.getD 89 undef, .nilFunc] Try.func33 rfl rfl rfl (by show [a.tmps.getD 88 undef, a.tmps.getD 89 undef, Value.nilFunc] = [_, _, _]; rw [e88]) (wanted_of rfl rfl rfl e87) hk.base ?_
    exact putNil_calls A n c xs _ w (hr.below hk.world) hl
  · refine ⟨stable_det _, ?_⟩
    intro a w O hk
    have f90 := hk.fact 30 _ 90 rfl rfl rfl rfl
    have g90 := hk.owns 30 rfl rfl
    have e87 : a.tmps.getD 87 undef = .bool true := hk.fact 27 _ 87 rfl rfl rfl rfl
    exact ob_convert rfl rfl (own_string Try.underlying22 Try.underlying5 Try.underlying9 f90.1) (wanted_of rfl rfl rfl e87) rfl
  · refine ⟨stable_det _, ?_⟩
    intro a w O hk
    have e0 : a.tmps.getD 0 undef = .slice A n c := (hk.init 0 (initialB_of_nw nw0)).trans hi0
    have e87 : a.tmps.getD 87 undef = .bool true := hk.fact 27 _ 87 rfl rfl rfl rfl
    exact ob_move rfl e0 (wanted_of rfl rfl rfl e87) rfl
  · refine ⟨stable_det _, ?_⟩
    intro a w O hk
    have e92 : a.tmps.getD 92 undef = .slice A n c := hk.fact 32 _ 92 rfl rfl rfl rfl
    have e87 : a.tmps.getD 87 undef = .bool true := hk.fact 27 _ 87 rfl rfl rfl rfl
    exact ob_convert rfl e92 (string_of_reads Try.underlying22 Try.underlying5 Try.underlying9 (hr.below hk.world)) (wanted_of rfl rfl rfl e87) rfl
  · refine ⟨stable_det _, ?_⟩
    intro a w O hk
    have e91 : a.tmps.getD 91 undef = .string (strOfNums xs) := hk.fact 31 _ 91 rfl rfl rfl rfl
    have e93 : a.tmps.getD 93 undef = .string (strOfNums xs) := hk.fact 33 _ 93 rfl rfl rfl rfl
    have e87 : a.tmps.getD 87 undef = .bool true := hk.fact 27 _ 87 rfl rfl rfl rfl
    exact ob_eqlStr rfl e91 e93 rfl (wanted_of rfl rfl rfl e87) rfl
  · refine ⟨stable_det _, ?_⟩
    intro a w O hk
    have e87 : a.tmps.getD 87 undef = .bool true := hk.fact 27 _ 87 rfl rfl rfl rfl
    have e94 : a.tmps.getD 94 undef = .bool true := hk.fact 34 _ 94 rfl rfl rfl rfl
    exact ob_pick rfl e87 e94 (wanted_none rfl) rfl
  · refine ⟨stable_det _, ?_⟩
    intro a w O hk
    have e95 : a.tmps.getD 95 undef = .bool true := hk.fact 35 _ 95 rfl rfl rfl rfl
    exact ob_move rfl e95 (wanted_none rfl) rfl
  · refine ⟨stable_det _, ?_⟩
    intro a w O hk
    have e96 : a.tmps.getD 96 undef = .bool true := hk.fact 36 _ 96 rfl rfl rfl rfl
    refine ob_call #[] Try.func18 rfl rfl rfl rfl (wanted_of rfl rfl rfl e96) ((awake_calls w).mono ?_)
    rintro e w' ⟨rfl, hb⟩
    exact ⟨_, fun _ => False, rfl, rfl, Chg.of_below hb, fun _ h => h.elim⟩
  · refine ⟨stable_det _, ?_⟩
    intro a w O hk
    have e96 : a.tmps.getD 96 undef = .bool true := hk.fact 36 _ 96 rfl rfl rfl rfl
    have e97 : a.tmps.getD 97 undef = .bool true := hk.fact 37 _ 97 rfl rfl rfl rfl
    exact ob_pick rfl e96 e97 (wanted_none rfl) rfl
  · refine ⟨stable_det _, ?_⟩
    intro a w O hk
    have e98 : a.tmps.getD 98 undef = .bool true := hk.fact 38 _ 98 rfl rfl rfl rfl
    exact ob_assign rfl e98 (wanted_none rfl) rfl
set_option maxRecDepth 100000 in
set_option maxHeartbeats 4000000 in
theorem woin_region {Q : Exit → Act → World → Prop} {id : Nat} (w0 : World) (A : Option Addr) (n c g : Nat) (xs : List Int) (k : Int) {s1 s2 s4 s5 s6 s7 s8 s9 s10 s12 s14 s15 s16 s18 s19 s20 s21 s22 s23 s24 s25 s26 s27 s28 s29 s30 s31 s32 s33 s34 s35 s36 s37 s38 s39 s40 s41 s42 s43 s44 s45 s46 s47 s48 s49 s50 s51 s52 s53 s54 s55 s56 s57 s58 s59 s60 s61 s62 s63 s64 s65 s66 s67 s68 s69 s70 s71 s72 s73 s74 s75 s76 s77 s78 s79 s80 s81 s82 s83 s84 s85 s86 s87 s88 s89 s90 s91 s92 s93 s94 s95 s96 s97 s98 : Value} (hr : ReadsInt w0 .u8 A n xs) (hg : w0.cell? ⟨g, 0, none⟩ = some (.int .i64 k)) (hl : n ≤ 140737488355000) (h1 : 1 ≤ k) (h2 : k ≤ n)
    (hend : ∀ (w' : World) (u89 : Value) (O89 : Nat → Prop) (u90 : Value) (O90 : Nat → Prop), Below w0.heap.size w0 w' → (True) → (∀ k, O89 k → w0.heap.size ≤ k ∧ k < w'.heap.size) → (OwnO w0.heap.size 5 1 xs.length (nums .u8 xs) u90 w' O90) → (∀ k, O90 k → w0.heap.size ≤ k ∧ k < w'.heap.size) → Q .normal { tmps := ((.slice A n c : Value) :: s1 :: s2 :: (.pointer (some ⟨g, 0, none⟩) : Value) :: (.bool true : Value) :: s5 :: s6 :: s7 :: s8 :: s9 :: s10 :: (.int .i64 1 : Value) :: s12 :: (.int .i64 1 : Value) :: s14 :: s15 :: s16 :: (.int .i64 0 : Value) :: s18 :: s19 :: s20 :: s21 :: s22 :: s23 :: s24 :: s25 :: s26 :: s27 :: s28 :: s29 :: s30 :: s31 :: s32 :: s33 :: s34 :: s35 :: s36 :: s37 :: s38 :: s39 :: s40 :: s41 :: s42 :: s43 :: s44 :: s45 :: s46 :: s47 :: s48 :: s49 :: s50 :: s51 :: s52 :: s53 :: s54 :: s55 :: s56 :: s57 :: s58 :: s59 :: (.int .i64 1 : Value) :: (.bool true : Value) :: (.bool true : Value) :: (.int .i64 1 : Value) :: (.bool true : Value) :: (.bool true : Value) :: (.bool true : Value) :: (.int .i64 0 : Value) :: (.bool true : Value) :: (.int .i64 k : Value) :: (.bool true : Value) :: (.bool true : Value) :: (.int .i64 k : Value) :: (.slice A n c : Value) :: (.int .i64 (n : Int) : Value) :: (.bool true : Value) :: (.bool true : Value) :: (.bool true : Value) :: (.bool true : Value) :: (.bool true : Value) :: (.int .i64 0 : Value) :: (.bool true : Value) :: (.bool true : Value) :: undef :: undef :: (.bool true : Value) :: (.bool true : Value) :: (.bool true : Value) :: (.slice A n c : Value) :: u89 :: u90 :: (.string (strOfNums xs) : Value) :: (.slice A n c : Value) :: (.string (strOfNums xs) : Value) :: (.bool true : Value) :: (.bool true : Value) :: (.bool true : Value) :: (.bool true : Value) :: (.bool true : Value) :: ([] : List Value)).toArray, defers := [] } w') :
    (Code.region id woin_ops.toArray true).wp Try.prog Q { tmps := ((.slice A n c : Value) :: s1 :: s2 :: (.pointer (some ⟨g, 0, none⟩) : Value) :: s4 :: s5 :: s6 :: s7 :: s8 :: s9 :: s10 :: (.int .i64 1 : Value) :: s12 :: (.int .i64 1 : Value) :: s14 :: s15 :: s16 :: (.int .i64 0 : Value) :: s18 :: s19 :: s20 :: s21 :: s22 :: s23 :: s24 :: s25 :: s26 :: s27 :: s28 :: s29 :: s30 :: s31 :: s32 :: s33 :: s34 :: s35 :: s36 :: s37 :: s38 :: s39 :: s40 :: s41 :: s42 :: s43 :: s44 :: s45 :: s46 :: s47 :: s48 :: s49 :: s50 :: s51 :: s52 :: s53 :: s54 :: s55 :: s56 :: s57 :: s58 :: s59 :: s60 :: s61 :: s62 :: s63 :: s64 :: s65 :: s66 :: s67 :: s68 :: s69 :: s70 :: s71 :: s72 :: s73 :: s74 :: s75 :: s76 :: s77 :: s78 :: s79 :: s80 :: s81 :: s82 :: s83 :: s84 :: s85 :: s86 :: s87 :: s88 :: s89 :: s90 :: s91 :: s92 :: s93 :: s94 :: s95 :: s96 :: s97 :: s98 :: ([] : List Value)).toArray, defers := [] } w0 := by
  refine wp_region_inv (by kernel_rfl) (w0.heap.size) woin_C (woin_F w0 A n c g xs k) (Nat.le_refl _) (by rfl) (by kernel_rfl) (woin_obs w0.drew A n c g xs k hr hg hl h1 h2 _ _ rfl rfl rfl rfl rfl) ?_
  intro a w' O hd hs hb hf hsame
  have x0 : a.tmps.getD 0 undef = .slice A n c := hsame 0 (nwB.spec (by kernel_rfl))
  have x1 : a.tmps.getD 1 undef = s1 := hsame 1 (nwB.spec (by kernel_rfl))
  have x2 : a.tmps.getD 2 undef = s2 := hsame 2 (nwB.spec (by kernel_rfl))
  have x3 : a.tmps.getD 3 undef = .pointer (some ⟨g, 0, none⟩) := hsame 3 (nwB.spec (by kernel_rfl))
  have x4 : a.tmps.getD 4 undef = .bool true := (hf 39 _ 4 rfl rfl (by decide)).1
  have x5 : a.tmps.getD 5 undef = s5 := hsame 5 (nwB.spec (by kernel_rfl))
  have x6 : a.tmps.getD 6 undef = s6 := hsame 6 (nwB.spec (by kernel_rfl))
  have x7 : a.tmps.getD 7 undef = s7 := hsame 7 (nwB.spec (by kernel_rfl))
  have x8 : a.tmps.getD 8 undef = s8 := hsame 8 (nwB.spec (by kernel_rfl))
  have x9 : a.tmps.getD 9 undef = s9 := hsame 9 (nwB.spec (by kernel_rfl))
  have x10 : a.tmps.getD 10 undef = s10 := hsame 10 (nwB.spec (by kernel_rfl))
  have x11 : a.tmps.getD 11 undef = .int .i64 1 := hsame 11 (nwB.spec (by kernel_rfl))
  have x12 : a.tmps.getD 12 undef = s12 := hsame 12 (nwB.spec (by kernel_rfl))
  have x13 : a.tmps.getD 13 undef = .int .i64 1 := hsame 13 (nwB.spec (by kernel_rfl))
  have x14 : a.tmps.getD 14 undef = s14 := hsame 14 (nwB.spec (by kernel_rfl))
  have x15 : a.tmps.getD 15 undef = s15 := hsame 15 (nwB.spec (by kernel_rfl))
  have x16 : a.tmps.getD 16 undef = s16 := hsame 16 (nwB.spec (by kernel_rfl))
  have x17 : a.tmps.getD 17 undef = .int .i64 0 := hsame 17 (nwB.spec (by kernel_rfl))
  have x18 : a.tmps.getD 18 undef = s18 := hsame 18 (nwB.spec (by kernel_rfl))
  have x19 : a.tmps.getD 19 undef = s19 := hsame 19 (nwB.spec (by kernel_rfl))
  have x20 : a.tmps.getD 20 undef = s20 := hsame 20 (nwB.spec (by kernel_rfl))
  have x21 : a.tmps.getD 21 undef = s21 := hsame 21 (nwB.spec (by kernel_rfl))
  have x22 : a.tmps.getD 22 undef = s22 := hsame 22 (nwB.spec (by kernel_rfl))
  have x23 : a.tmps.getD 23 undef = s23 := hsame 23 (nwB.spec (by kernel_rfl))
  have x24 : a.tmps.getD 24 undef = s24 := hsame 24 (nwB.spec (by kernel_rfl))
  have x25 : a.tmps.getD 25 undef = s25 := hsame 25 (nwB.spec (by kernel_rfl))
  have x26 : a.tmps.getD 26 undef = s26 := hsame 26 (nwB.spec (by kernel_rfl))
  have x27 : a.tmps.getD 27 undef = s27 := hsame 27 (nwB.spec (by kernel_rfl))
  have x28 : a.tmps.getD 28 undef = s28 := hsame 28 (nwB.spec (by kernel_rfl))
  have x29 : a.tmps.getD 29 undef = s29 := hsame 29 (nwB.spec (by kernel_rfl))
  have x30 : a.tmps.getD 30 undef = s30 := hsame 30 (nwB.spec (by kernel_rfl))
  have x31 : a.tmps.getD 31 undef = s31 := hsame 31 (nwB.spec (by kernel_rfl))
  have x32 : a.tmps.getD 32 undef = s32 := hsame 32 (nwB.spec (by kernel_rfl))
  have x33 : a.tmps.getD 33 undef = s33 := hsame 33 (nwB.spec (by kernel_rfl))
  have x34 : a.tmps.getD 34 undef = s34 := hsame 34 (nwB.spec (by kernel_rfl))
  have x35 : a.tmps.getD 35 undef = s35 := hsame 35 (nwB.spec (by kernel_rfl))
  have x36 : a.tmps.getD 36 undef = s36 := hsame 36 (nwB.spec (by kernel_rfl))
  have x37 : a.tmps.getD 37 undef = s37 := hsame 37 (nwB.spec (by kernel_rfl))
  have x38 : a.tmps.getD 38 undef = s38 := hsame 38 (nwB.spec (by kernel_rfl))
  have x39 : a.tmps.getD 39 undef = s39 := hsame 39 (nwB.spec (by kernel_rfl))
  have x40 : a.tmps.getD 40 undef = s40 := hsame 40 (nwB.spec (by kernel_rfl))
  have x41 : a.tmps.getD 41 undef = s41 := hsame 41 (nwB.spec (by kernel_rfl))
  have x42 : a.tmps.getD 42 undef = s42 := hsame 42 (nwB.spec (by kernel_rfl))
  have x43 : a.tmps.getD 43 undef = s43 := hsame 43 (nwB.spec (by kernel_rfl))
  have x44 : a.tmps.getD 44 undef = s44 := hsame 44 (nwB.spec (by kernel_rfl))
  have x45 : a.tmps.getD 45 undef = s45 := hsame 45 (nwB.spec (by kernel_rfl))
  have x46 : a.tmps.getD 46 undef = s46 := hsame 46 (nwB.spec (by kernel_rfl))
  have x47 : a.tmps.getD 47 undef = s47 := hsame 47 (nwB.spec (by kernel_rfl))
  have x48 : a.tmps.getD 48 undef = s48 := hsame 48 (nwB.spec (by kernel_rfl))
  have x49 : a.tmps.getD 49 undef = s49 := hsame 49 (nwB.spec (by kernel_rfl))
  have x50 : a.tmps.getD 50 undef = s50 := hsame 50 (nwB.spec (by kernel_rfl))
  have x51 : a.tmps.getD 51 undef = s51 := hsame 51 (nwB.spec (by kernel_rfl))
  have x52 : a.tmps.getD 52 undef = s52 := hsame 52 (nwB.spec (by kernel_rfl))
  have x53 : a.tmps.getD 53 undef = s53 := hsame 53 (nwB.spec (by kernel_rfl))
  have x54 : a.tmps.getD 54 undef = s54 := hsame 54 (nwB.spec (by kernel_rfl))
  have x55 : a.tmps.getD 55 undef = s55 := hsame 55 (nwB.spec (by kernel_rfl))
  have x56 : a.tmps.getD 56 undef = s56 := hsame 56 (nwB.spec (by kernel_rfl))
  have x57 : a.tmps.getD 57 undef = s57 := hsame 57 (nwB.spec (by kernel_rfl))
  have x58 : a.tmps.getD 58 undef = s58 := hsame 58 (nwB.spec (by kernel_rfl))
  have x59 : a.tmps.getD 59 undef = s59 := hsame 59 (nwB.spec (by kernel_rfl))
  have x60 : a.tmps.getD 60 undef = .int .i64 1 := (hf 0 _ 60 rfl rfl (by decide)).1
  have x61 : a.tmps.getD 61 undef = .bool true := (hf 1 _ 61 rfl rfl (by decide)).1
  have x62 : a.tmps.getD 62 undef = .bool true := (hf 2 _ 62 rfl rfl (by decide)).1
  have x63 : a.tmps.getD 63 undef = .int .i64 1 := (hf 3 _ 63 rfl rfl (by decide)).1
  have x64 : a.tmps.getD 64 undef = .bool true := (hf 4 _ 64 rfl rfl (by decide)).1
  have x65 : a.tmps.getD 65 undef = .bool true := (hf 5 _ 65 rfl rfl (by decide)).1
  have x66 : a.tmps.getD 66 undef = .bool true := (hf 6 _ 66 rfl rfl (by decide)).1
  have x67 : a.tmps.getD 67 undef = .int .i64 0 := (hf 7 _ 67 rfl rfl (by decide)).1
  have x68 : a.tmps.getD 68 undef = .bool true := (hf 8 _ 68 rfl rfl (by decide)).1
  have x69 : a.tmps.getD 69 undef = .int .i64 k := (hf 9 _ 69 rfl rfl (by decide)).1
  have x70 : a.tmps.getD 70 undef = .bool true := (hf 10 _ 70 rfl rfl (by decide)).1
  have x71 : a.tmps.getD 71 undef = .bool true := (hf 11 _ 71 rfl rfl (by decide)).1
  have x72 : a.tmps.getD 72 undef = .int .i64 k := (hf 12 _ 72 rfl rfl (by decide)).1
  have x73 : a.tmps.getD 73 undef = .slice A n c := (hf 13 _ 73 rfl rfl (by decide)).1
  have x74 : a.tmps.getD 74 undef = .int .i64 (n : Int) := (hf 14 _ 74 rfl rfl (by decide)).1
  have x75 : a.tmps.getD 75 undef = .bool true := (hf 15 _ 75 rfl rfl (by decide)).1
  have x76 : a.tmps.getD 76 undef = .bool true := (hf 16 _ 76 rfl rfl (by decide)).1
  have x77 : a.tmps.getD 77 undef = .bool true := (hf 17 _ 77 rfl rfl (by decide)).1
  have x78 : a.tmps.getD 78 undef = .bool true := (hf 18 _ 78 rfl rfl (by decide)).1
  have x79 : a.tmps.getD 79 undef = .bool true := (hf 19 _ 79 rfl rfl (by decide)).1
  have x80 : a.tmps.getD 80 undef = .int .i64 0 := (hf 20 _ 80 rfl rfl (by decide)).1
  have x81 : a.tmps.getD 81 undef = .bool true := (hf 21 _ 81 rfl rfl (by decide)).1
  have x82 : a.tmps.getD 82 undef = .bool true := (hf 22 _ 82 rfl rfl (by decide)).1
  have x83 : a.tmps.getD 83 undef = undef := (hf 23 _ 83 rfl rfl (by decide)).1
  have x84 : a.tmps.getD 84 undef = undef := (hf 24 _ 84 rfl rfl (by decide)).1
  have x85 : a.tmps.getD 85 undef = .bool true := (hf 25 _ 85 rfl rfl (by decide)).1
  have x86 : a.tmps.getD 86 undef = .bool true := (hf 26 _ 86 rfl rfl (by decide)).1
  have x87 : a.tmps.getD 87 undef = .bool true := (hf 27 _ 87 rfl rfl (by decide)).1
  have x88 : a.tmps.getD 88 undef = .slice A n c := (hf 28 _ 88 rfl rfl (by decide)).1
  have x91 : a.tmps.getD 91 undef = .string (strOfNums xs) := (hf 31 _ 91 rfl rfl (by decide)).1
  have x92 : a.tmps.getD 92 undef = .slice A n c := (hf 32 _ 92 rfl rfl (by decide)).1
  have x93 : a.tmps.getD 93 undef = .string (strOfNums xs) := (hf 33 _ 93 rfl rfl (by decide)).1
  have x94 : a.tmps.getD 94 undef = .bool true := (hf 34 _ 94 rfl rfl (by decide)).1
  have x95 : a.tmps.getD 95 undef = .bool true := (hf 35 _ 95 rfl rfl (by decide)).1
  have x96 : a.tmps.getD 96 undef = .bool true := (hf 36 _ 96 rfl rfl (by decide)).1
  have x97 : a.tmps.getD 97 undef = .bool true := (hf 37 _ 97 rfl rfl (by decide)).1
  have x98 : a.tmps.getD 98 undef = .bool true := (hf 38 _ 98 rfl rfl (by decide)).1
  have hl : a.tmps = ((.slice A n c : Value) :: s1 :: s2 :: (.pointer (some ⟨g, 0, none⟩) : Value) :: (.bool true : Value) :: s5 :: s6 :: s7 :: s8 :: s9 :: s10 :: (.int .i64 1 : Value) :: s12 :: (.int .i64 1 : Value) :: s14 :: s15 :: s16 :: (.int .i64 0 : Value) :: s18 :: s19 :: s20 :: s21 :: s22 :: s23 :: s24 :: s25 :: s26 :: s27 :: s28 :: s29 :: s30 :: s31 :: s32 :: s33 :: s34 :: s35 :: s36 :: s37 :: s38 :: s39 :: s40 :: s41 :: s42 :: s43 :: s44 :: s45 :: s46 :: s47 :: s48 :: s49 :: s50 :: s51 :: s52 :: s53 :: s54 :: s55 :: s56 :: s57 :: s58 :: s59 :: (.int .i64 1 : Value) :: (.bool true : Value) :: (.bool true : Value) :: (.int .i64 1 : Value) :: (.bool true : Value) :: (.bool true : Value) :: (.bool true : Value) :: (.int .i64 0 : Value) :: (.bool true : Value) :: (.int .i64 k : Value) :: (.bool true : Value) :: (.bool true : Value) :: (.int .i64 k : Value) :: (.slice A n c : Value) :: (.int .i64 (n : Int) : Value) :: (.bool true : Value) :: (.bool true : Value) :: (.bool true : Value) :: (.bool true : Value) :: (.bool true : Value) :: (.int .i64 0 : Value) :: (.bool true : Value) :: (.bool true : Value) :: undef :: undef :: (.bool true : Value) :: (.bool true : Value) :: (.bool true : Value) :: (.slice A n c : Value) :: (a.tmps.getD 89 undef : Value) :: (a.tmps.getD 90 undef : Value) :: (.string (strOfNums xs) : Value) :: (.slice A n c : Value) :: (.string (strOfNums xs) : Value) :: (.bool true : Value) :: (.bool true : Value) :: (.bool true : Value) :: (.bool true : Value) :: (.bool true : Value) :: ([] : List Value)).toArray := by
    have h := lit a.tmps 99 hs
    have e : ((List.range 99).map (fun i => a.tmps.getD i undef)).toArray = ((a.tmps.getD 0 undef : Value) :: (a.tmps.getD 1 undef : Value) :: (a.tmps.getD 2 undef : Value) :: (a.tmps.getD 3 undef : Value) :: (a.tmps.getD 4 undef : Value) :: (a.tmps.getD 5 undef : Value) :: (a.tmps.getD 6 undef : Value) :: (a.tmps.getD 7 undef : Value) :: (a.tmps.getD 8 undef : Value) :: (a.tmps.getD 9 undef : Value) :: (a.tmps.getD 10 undef : Value) :: (a.tmps.getD 11 undef : Value) :: (a.tmps.getD 12 undef : Value) :: (a.tmps.getD 13 undef : Value) :: (a.tmps.getD 14 undef : Value) :: (a.tmps.getD 15 undef : Value) :: (a.tmps.getD 16 undef : Value) :: (a.tmps.getD 17 undef : Value) :: (a.tmps.getD 18 undef : Value) :: (a.tmps.getD 19 undef : Value) :: (a.tmps.getD 20 undef : Value) :: (a.tmps.getD 21 undef : Value) :: (a.tmps.getD 22 undef : Value) :: (a.tmps.getD 23 undef : Value) :: (a.tmps.getD 24 undef : Value) :: (a.tmps.getD 25 undef : Value) :: (a.tmps.getD 26 undef : Value) :: (a.tmps.getD 27 undef : Value) :: (a.tmps.getD 28 undef : Value) :: (a.tmps.getD 29 undef : Value) :: (a.tmps.getD 30 undef : Value) :: (a.tmps.getD 31 undef : Value) :: (a.tmps.getD 32 undef : Value) :: (a.tmps.getD 33 undef : Value) :: (a.tmps.getD 34 undef : Value) :: (a.tmps.getD 35 undef : Value) :: (a.tmps.getD 36 undef : Value) :: (a.tmps.getD 37 undef : Value) :: (a.tmps.getD 38 undef : Value) :: (a.tmps.getD 39 undef : Value) :: (a.tmps.getD 40 undef : Value) :: (a.tmps.getD 41 undef : Value) :: (a.tmps.getD 42 undef : Value) :: (a.tmps.getD 43 undef : Value) :: (a.tmps.getD 44 undef : Value) :: (a.tmps.getD 45 undef : Value) :: (a.tmps.getD 46 undef : Value) :: (a.tmps.getD 47 undef : Value) :: (a.tmps.getD 48 undef : Value) :: (a.tmps.getD 49 undef : Value) :: (a.tmps.getD 50 undef : Value) :: (a.tmps.getD 51 undef : Value) :: (a.tmps.getD 52 undef : Value) :: (a.tmps.getD 53 undef : Value) :: (a.tmps.getD 54 undef : Value) :: (a.tmps.getD 55 undef : Value) :: (a.tmps.getD 56 undef : Value) :: (a.tmps.getD 57 undef : Value) :: (a.tmps.getD 58 undef : Value) :: (a.tmps.getD 59 undef : Value) :: (a.tmps.getD 60 undef : Value) :: (a.tmps.getD 61 undef : Value) :: (a.tmps.getD 62 undef : Value) :: (a.tmps.getD 63 undef : Value) :: (a.tmps.getD 64 undef : Value) :: (a.tmps.getD 65 undef : Value) :: (a.tmps.getD 66 undef : Value) :: (a.tmps.getD 67 undef : Value) :: (a.tmps.getD 68 undef : Value) :: (a.tmps.getD 69 undef : Value) :: (a.tmps.getD 70 undef : Value) :: (a.tmps.getD 71 undef : Value) :: (a.tmps.getD 72 undef : Value) :: (a.tmps.getD 73 undef : Value) :: (a.tmps.getD 74 undef : Value) :: (a.tmps.getD 75 undef : Value) :: (a.tmps.getD 76 undef : Value) :: (a.tmps.getD 77 undef : Value) :: (a.tmps.getD 78 undef : Value) :: (a.tmps.getD 79 undef : Value) :: (a.tmps.getD 80 undef : Value) :: (a.tmps.getD 81 undef : Value) :: (a.tmps.getD 82 undef : Value) :: (a.tmps.getD 83 undef : Value) :: (a.tmps.getD 84 undef : Value) :: (a.tmps.getD 85 undef : Value) :: (a.tmps.getD 86 undef : Value) :: (a.tmps.getD 87 undef : Value) :: (a.tmps.getD 88 undef : Value) :: (a.tmps.getD 89 undef : Value) :: (a.tmps.getD 90 undef : Value) :: (a.tmps.getD 91 undef : Value) :: (a.tmps.getD 92 undef : Value) :: (a.tmps.getD 93 undef : Value) :: (a.tmps.getD 94 undef : Value) :: (a.tmps.getD 95 undef : Value) :: (a.tmps.getD 96 undef : Value) :: (a.tmps.getD 97 undef : Value) :: (a.tmps.getD 98 undef : Value) :: ([] : List Value)).toArray := rfl
    rw [e, x0, x1, x2, x3, x4, x5, x6, x7, x8, x9, x10, x11, x12, x13, x14, x15, x16, x17, x18, x19, x20, x21, x22, x23, x24, x25, x26, x27, x28, x29, x30, x31, x32, x33, x34, x35, x36, x37, x38, x39, x40, x41, x42, x43, x44, x45, x46, x47, x48, x49, x50, x51, x52, x53, x54, x55, x56, x57, x58, x59, x60, x61, x62, x63, x64, x65, x66, x67, x68, x69, x70, x71, x72, x73, x74, x75, x76, x77, x78, x79, x80, x81, x82, x83, x84, x85, x86, x87, x88, x91, x92, x93, x94, x95, x96, x97, x98] at h
    exact h
  obtain ⟨tmps, defers⟩ := a
  obtain rfl : defers = [] := hd
  have hl' : tmps = _ := hl
  rw [hl']
  exact hend w' _ (O 29) _ (O 30) ⟨hb.os, hb.tape, hb.output, hb.size, hb.block⟩ (hf 29 _ 89 rfl rfl (by decide)).1 (hf 29 _ 89 rfl rfl (by decide)).2 (hf 30 _ 90 rfl rfl (by decide)).1 (hf 30 _ 90 rfl rfl (by decide)).2

def wolo_ops : List Oper := [
  { dst := some 60, op := Go.Op.move (Go.Operand.tmp 11), type := 24, pos := "law.go:92", after := #[], guard := none },
  { dst := some 61, op := Go.Op.binOp Go.BinOp.eql 24 (Go.Operand.tmp 60) (Go.Operand.const (Go.Value.int Go.IntKind.i64 1)) 24, type := 4, pos := "law.go:92", after := #[{ on := 0, ground := Go.Ground.data }], guard := none },
  { dst := some 62, op := Go.Op.move (Go.Operand.tmp 61), type := 4, pos := "law.go:92", after := #[{ on := 1, ground := Go.Ground.data }], guard := none },
  { dst := some 63, op := Go.Op.move (Go.Operand.tmp 13), type := 24, pos := "law.go:92", after := #[{ on := 2, ground := Go.Ground.guard }], guard := some (2, true) },
  { dst := some 64, op := Go.Op.binOp Go.BinOp.eql 24 (Go.Operand.tmp 63) (Go.Operand.const (Go.Value.int Go.IntKind.i64 1)) 24, type := 4, pos := "law.go:92", after := #[{ on := 3, ground := Go.Ground.data }, { on := 2, ground := Go.Ground.guard }], guard := some (2, true) },
  { dst := some 65, op := Go.Op.pick (Go.Operand.tmp 62) (Go.Operand.tmp 64) (Go.Operand.const (Go.Value.bool false)), type := 4, pos := "law.go:92", after := #[{ on := 2, ground := Go.Ground.data }, { on := 4, ground := Go.Ground.data }], guard := none },
  { dst := some 66, op := Go.Op.move (Go.Operand.tmp 65), type := 4, pos := "law.go:92", after := #[{ on := 5, ground := Go.Ground.data }, { on := 2, ground := Go.Ground.chain }], guard := none },
  { dst := some 67, op := Go.Op.move (Go.Operand.tmp 17), type := 24, pos := "law.go:92", after := #[{ on := 6, ground := Go.Ground.guard }], guard := some (6, true) },
  { dst := some 68, op := Go.Op.binOp Go.BinOp.eql 24 (Go.Operand.tmp 67) (Go.Operand.const (Go.Value.int Go.IntKind.i64 0)) 24, type := 4, pos := "law.go:92", after := #[{ on := 7, ground := Go.Ground.data }, { on := 6, ground := Go.Ground.guard }], guard := some (6, true) },
  { dst := some 69, op := Go.Op.load 3 (Go.Operand.tmp 3), type := 3, pos := "law.go:92", after := #[{ on := 6, ground := Go.Ground.guard }], guard := some (6, true) },
  { dst := some 70, op := Go.Op.binOp Go.BinOp.geq 3 (Go.Operand.tmp 69) (Go.Operand.const (Go.Value.int Go.IntKind.i64 1)) 3, type := 4, pos := "law.go:92", after := #[{ on := 9, ground := Go.Ground.data }, { on := 6, ground := Go.Ground.guard }], guard := some (6, true) },
  { dst := some 71, op := Go.Op.move (Go.Operand.tmp 70), type := 4, pos := "law.go:92", after := #[{ on := 10, ground := Go.Ground.data }, { on := 6, ground := Go.Ground.chain }, { on := 6, ground := Go.Ground.guard }], guard := some (6, true) },
  { dst := some 72, op := Go.Op.load 3 (Go.Operand.tmp 3), type := 3, pos := "law.go:92", after := #[{ on := 11, ground := Go.Ground.guard }], guard := some (11, true) },
  { dst := some 73, op := Go.Op.move (Go.Operand.tmp 0), type := 22, pos := "law.go:92", after := #[{ on := 11, ground := Go.Ground.guard }], guard := some (11, true) },
  { dst := some 74, op := Go.Op.call { callee := Go.Callee.builtin Go.Builtin.len, args := #[Go.Operand.tmp 73], argTypes := #[22] }, type := 3, pos := "law.go:92", after := #[{ on := 13, ground := Go.Ground.data }, { on := 11, ground := Go.Ground.guard }], guard := some (11, true) },
  { dst := some 75, op := Go.Op.binOp Go.BinOp.leq 3 (Go.Operand.tmp 72) (Go.Operand.tmp 74) 3, type := 4, pos := "law.go:92", after := #[{ on := 12, ground := Go.Ground.data }, { on := 14, ground := Go.Ground.data }, { on := 11, ground := Go.Ground.guard }], guard := some (11, true) },
  { dst := some 76, op := Go.Op.pick (Go.Operand.tmp 71) (Go.Operand.tmp 75) (Go.Operand.const (Go.Value.bool false)), type := 4, pos := "law.go:92", after := #[{ on := 11, ground := Go.Ground.data }, { on := 15, ground := Go.Ground.data }, { on := 6, ground := Go.Ground.guard }], guard := some (6, true) },
  { dst := some 77, op := Go.Op.binOp Go.BinOp.eql 4 (Go.Operand.tmp 68) (Go.Operand.tmp 76) 4, type := 4, pos := "law.go:92", after := #[{ on := 8, ground := Go.Ground.data }, { on := 16, ground := Go.Ground.data }, { on := 6, ground := Go.Ground.guard }], guard := some (6, true) },
  { dst := some 78, op := Go.Op.pick (Go.Operand.tmp 66) (Go.Operand.tmp 77) (Go.Operand.const (Go.Value.bool false)), type := 4, pos := "law.go:92", after := #[{ on := 6, ground := Go.Ground.data }, { on := 17, ground := Go.Ground.data }], guard := none },
  { dst := some 79, op := Go.Op.move (Go.Operand.tmp 78), type := 4, pos := "law.go:92", after := #[{ on := 18, ground := Go.Ground.data }, { on := 11, ground := Go.Ground.chain }], guard := none },
  { dst := some 80, op := Go.Op.move (Go.Operand.tmp 17), type := 24, pos := "law.go:92", after := #[{ on := 19, ground := Go.Ground.guard }], guard := some (19, true) },
  { dst := some 81, op := Go.Op.binOp Go.BinOp.eql 24 (Go.Operand.tmp 80) (Go.Operand.const (Go.Value.int Go.IntKind.i64 0)) 24, type := 4, pos := "law.go:92", after := #[{ on := 20, ground := Go.Ground.data }, { on := 19, ground := Go.Ground.guard }], guard := some (19, true) },
  { dst := some 82, op := Go.Op.move (Go.Operand.tmp 81), type := 4, pos := "law.go:92", after := #[{ on := 21, ground := Go.Ground.data }, { on := 19, ground := Go.Ground.chain }, { on := 19, ground := Go.Ground.guard }], guard := some (19, true) },
  { dst := some 83, op := Go.Op.move (Go.Operand.tmp 17), type := 24, pos := "law.go:92", after := #[{ on := 22, ground := Go.Ground.guard }], guard := some (22, false) },
  { dst := some 84, op := Go.Op.binOp Go.BinOp.eql 24 (Go.Operand.tmp 83) (Go.Operand.const (Go.Value.int Go.IntKind.i64 4)) 24, type := 4, pos := "law.go:92", after := #[{ on := 23, ground := Go.Ground.data }, { on := 22, ground := Go.Ground.guard }], guard := some (22, false) },
  { dst := some 85, op := Go.Op.pick (Go.Operand.tmp 82) (Go.Operand.const (Go.Value.bool true)) (Go.Operand.tmp 84), type := 4, pos := "law.go:92", after := #[{ on := 22, ground := Go.Ground.data }, { on := 24, ground := Go.Ground.data }, { on := 19, ground := Go.Ground.guard }], guard := some (19, true) },
  { dst := some 86, op := Go.Op.pick (Go.Operand.tmp 79) (Go.Operand.tmp 85) (Go.Operand.const (Go.Value.bool false)), type := 4, pos := "law.go:92", after := #[{ on := 19, ground := Go.Ground.data }, { on := 25, ground := Go.Ground.data }], guard := none },
  { dst := some 87, op := Go.Op.move (Go.Operand.tmp 86), type := 4, pos := "law.go:92", after := #[{ on := 26, ground := Go.Ground.data }, { on := 22, ground := Go.Ground.chain }], guard := none },
  { dst := some 88, op := Go.Op.move (Go.Operand.tmp 0), type := 22, pos := "law.go:92", after := #[{ on := 27, ground := Go.Ground.guard }], guard := some (27, true) },
  { dst := some 89, op := Go.Op.buildSlice 56 1 #[(0, Go.Operand.const (Go.Value.int Go.IntKind.i64 1))], type := 56, pos := "law.go:92", after := #[{ on := 27, ground := Go.Ground.guard }], guard := some (27, true) },
  { dst := some 90, op := Go.Op.call { callee := Go.Callee.value (Go.Operand.func 33), args := #[Go.Operand.tmp 88, Go.Operand.tmp 89, Go.Operand.const Go.Value.nilFunc], argTypes := #[22, 56, 64] }, type := 22, pos := "law.go:92", after := #[{ on := 28, ground := Go.Ground.data }, { on := 29, ground := Go.Ground.data }, { on := 27, ground := Go.Ground.chain }, { on := 27, ground := Go.Ground.guard }], guard := some (27, true) },
  { dst := some 91, op := Go.Op.convert 22 9 (Go.Operand.tmp 90), type := 9, pos := "law.go:92", after := #[{ on := 30, ground := Go.Ground.data }, { on := 27, ground := Go.Ground.guard }], guard := some (27, true) },
  { dst := some 92, op := Go.Op.move (Go.Operand.tmp 0), type := 22, pos := "law.go:92", after := #[{ on := 27, ground := Go.Ground.guard }], guard := some (27, true) },
  { dst := some 93, op := Go.Op.convert 22 9 (Go.Operand.tmp 92), type := 9, pos := "law.go:92", after := #[{ on := 32, ground := Go.Ground.data }, { on := 27, ground := Go.Ground.guard }], guard := some (27, true) },
  { dst := some 94, op := Go.Op.binOp Go.BinOp.eql 9 (Go.Operand.tmp 91) (Go.Operand.tmp 93) 9, type := 4, pos := "law.go:92", after := #[{ on := 31, ground := Go.Ground.data }, { on := 33, ground := Go.Ground.data }, { on := 27, ground := Go.Ground.guard }], guard := some (27, true) },
  { dst := some 95, op := Go.Op.pick (Go.Operand.tmp 87) (Go.Operand.tmp 94) (Go.Operand.const (Go.Value.bool false)), type := 4, pos := "law.go:92", after := #[{ on := 27, ground := Go.Ground.data }, { on := 34, ground := Go.Ground.data }], guard := none },
  { dst := some 96, op := Go.Op.move (Go.Operand.tmp 95), type := 4, pos := "law.go:92", after := #[{ on := 35, ground := Go.Ground.data }, { on := 30, ground := Go.Ground.chain }], guard := none },
  { dst := some 97, op := Go.Op.call { callee := Go.Callee.value (Go.Operand.func 18), args := #[], argTypes := #[] }, type := 4, pos := "law.go:92", after := #[{ on := 36, ground := Go.Ground.chain }, { on := 36, ground := Go.Ground.guard }], guard := some (36, true) },
  { dst := some 98, op := Go.Op.pick (Go.Operand.tmp 96) (Go.Operand.tmp 97) (Go.Operand.const (Go.Value.bool false)), type := 4, pos := "law.go:92", after := #[{ on := 36, ground := Go.Ground.data }, { on := 37, ground := Go.Ground.data }], guard := none },
  { dst := some 4, op := Go.Op.assign (Go.Operand.tmp 98), type := 4, pos := "law.go:92", after := #[{ on := 38, ground := Go.Ground.data }, { on := 37, ground := Go.Ground.chain }, { on := 0, ground := Go.Ground.phase }, { on := 1, ground := Go.Ground.phase }, { on := 2, ground := Go.Ground.phase }, { on := 3, ground := Go.Ground.phase }, { on := 4, ground := Go.Ground.phase }, { on := 5, ground := Go.Ground.phase }, { on := 6, ground := Go.Ground.phase }, { on := 7, ground := Go.Ground.phase }, { on := 8, ground := Go.Ground.phase }, { on := 9, ground := Go.Ground.phase }, { on := 10, ground := Go.Ground.phase }, { on := 11, ground := Go.Ground.phase }, { on := 12, ground := Go.Ground.phase }, { on := 13, ground := Go.Ground.phase }, { on := 14, ground := Go.Ground.phase }, { on := 15, ground := Go.Ground.phase }, { on := 16, ground := Go.Ground.phase }, { on := 17, ground := Go.Ground.phase }, { on := 18, ground := Go.Ground.phase }, { on := 19, ground := Go.Ground.phase }, { on := 20, ground := Go.Ground.phase }, { on := 21, ground := Go.Ground.phase }, { on := 22, ground := Go.Ground.phase }, { on := 23, ground := Go.Ground.phase }, { on := 24, ground := Go.Ground.phase }, { on := 25, ground := Go.Ground.phase }, { on := 26, ground := Go.Ground.phase }, { on := 27, ground := Go.Ground.phase }, { on := 28, ground := Go.Ground.phase }, { on := 29, ground := Go.Ground.phase }, { on := 30, ground := Go.Ground.phase }, { on := 31, ground := Go.Ground.phase }, { on := 32, ground := Go.Ground.phase }, { on := 33, ground := Go.Ground.phase }, { on := 34, ground := Go.Ground.phase }, { on := 35, ground := Go.Ground.phase }, { on := 36, ground := Go.Ground.phase }, { on := 37, ground := Go.Ground.phase }, { on := 38, ground := Go.Ground.phase }], guard := none }]
def wolo_F (w0 : World) (A : Option Addr) (n c g : Nat) (xs : List Int) (k : Int) : Nat → Value → World → (Nat → Prop) → Prop := fun i => match i with
  | 0 => fun v _ _ => v = .int .i64 1
  | 1 => fun v _ _ => v = .bool true
  | 2 => fun v _ _ => v = .bool true
  | 3 => fun v _ _ => v = .int .i64 1
  | 4 => fun v _ _ => v = .bool true
  | 5 => fun v _ _ => v = .bool true
  | 6 => fun v _ _ => v = .bool true
  | 7 => fun v _ _ => v = .int .i64 4
  | 8 => fun v _ _ => v = .bool false
  | 9 => fun v _ _ => v = .int .i64 k
  | 10 => fun v _ _ => v = .bool false
  | 11 => fun v _ _ => v = .bool false
  | 12 => fun v _ _ => v = undef
  | 13 => fun v _ _ => v = undef
  | 14 => fun v _ _ => v = undef
  | 15 => fun v _ _ => v = undef
  | 16 => fun v _ _ => v = .bool false
  | 17 => fun v _ _ => v = .bool true
  | 18 => fun v _ _ => v = .bool true
  | 19 => fun v _ _ => v = .bool true
  | 20 => fun v _ _ => v = .int .i64 4
  | 21 => fun v _ _ => v = .bool false
  | 22 => fun v _ _ => v = .bool false
  | 23 => fun v _ _ => v = .int .i64 4
  | 24 => fun v _ _ => v = .bool true
  | 25 => fun v _ _ => v = .bool true
  | 26 => fun v _ _ => v = .bool true
  | 27 => fun v _ _ => v = .bool true
  | 28 => fun v _ _ => v = .slice A n c
  | 29 => fun v w O => True
  | 30 => fun v w O => OwnO w0.heap.size 5 1 xs.length (nums .u8 xs) v w O
  | 31 => fun v _ _ => v = .string (strOfNums xs)
  | 32 => fun v _ _ => v = .slice A n c
  | 33 => fun v _ _ => v = .string (strOfNums xs)
  | 34 => fun v _ _ => v = .bool true
  | 35 => fun v _ _ => v = .bool true
  | 36 => fun v _ _ => v = .bool true
  | 37 => fun v _ _ => v = .bool true
  | 38 => fun v _ _ => v = .bool true
  | 39 => fun v _ _ => v = .bool true
  | _ => fun _ _ _ => True
def wolo_C : Nat → List Nat := fun i => match i with
  | _ => []
theorem wolo_nw0 : nwB wolo_ops.toArray 0 = true := by kernel_rfl
theorem wolo_nw3 : nwB wolo_ops.toArray 3 = true := by kernel_rfl
theorem wolo_nw11 : nwB wolo_ops.toArray 11 = true := by kernel_rfl
theorem wolo_nw13 : nwB wolo_ops.toArray 13 = true := by kernel_rfl
theorem wolo_nw17 : nwB wolo_ops.toArray 17 = true := by kernel_rfl
set_option maxRecDepth 100000 in
set_option maxHeartbeats 4000000 in
theorem wolo_obs (w0 : World) (A : Option Addr) (n c g : Nat) (xs : List Int) (k : Int) (hr : ReadsInt w0 .u8 A n xs) (hg : w0.cell? ⟨g, 0, none⟩ = some (.int .i64 k)) (hl : n ≤ 140737488355000) (h1 : k < 1) (Q : Exit → Act → World → Prop) (a0 : Act) (hi0 : a0.tmps.getD 0 undef = .slice A n c) (hi3 : a0.tmps.getD 3 undef = .pointer (some ⟨g, 0, none⟩)) (hi11 : a0.tmps.getD 11 undef = .int .i64 1) (hi13 : a0.tmps.getD 13 undef = .int .i64 1) (hi17 : a0.tmps.getD 17 undef = .int .i64 4) :
    Obs Try.prog wolo_ops.toArray Q w0.heap.size wolo_C (wolo_F w0 A n c g xs k) a0 w0 wolo_ops.toArray.toList 0 := by
  have nw0 := wolo_nw0
  have nw3 := wolo_nw3
  have nw11 := wolo_nw11
  have nw13 := wolo_nw13
  have nw17 := wolo_nw17
  refine ⟨?_, ?_, ?_, ?_, ?_, ?_, ?_, ?_, ?_, ?_, ?_, ?_, ?_, ?_, ?_, ?_, ?_, ?_, ?_, ?_, ?_, ?_, ?_, ?_, ?_, ?_, ?_, ?_, ?_, ?_, ?_, ?_, ?_, ?_, ?_, ?_, ?_, ?_, ?_, ?_, trivial⟩
  · refine ⟨stable_det _, ?_⟩
    intro a w O hk
    have e11 : a.tmps.getD 11 undef = .int .i64 1 := (hk.init 11 (initialB_of_nw nw11)).trans hi11
    exact ob_move rfl e11 (wanted_none rfl) rfl
  · refine ⟨stable_det _, ?_⟩
    intro a w O hk
    have e60 : a.tmps.getD 60 undef = .int .i64 1 := hk.fact 0 _ 60 rfl rfl rfl rfl
    exact ob_eqlInt true rfl e60 rfl (by simp) (wanted_none rfl) rfl
  · refine ⟨stable_det _, ?_⟩
    intro a w O hk
    have e61 : a.tmps.getD 61 undef = .bool true := hk.fact 1 _ 61 rfl rfl rfl rfl
    exact ob_move rfl e61 (wanted_none rfl) rfl
  · refine ⟨stable_det _, ?_⟩
    intro a w O hk
    have e13 : a.tmps.getD 13 undef = .int .i64 1 := (hk.init 13 (initialB_of_nw nw13)).trans hi13
    have e62 : a.tmps.getD 62 undef = .bool true := hk.fact 2 _ 62 rfl rfl rfl rfl
    exact ob_move rfl e13 (wanted_of rfl rfl rfl e62) rfl
  · refine ⟨stable_det _, ?_⟩
    intro a w O hk
    have e63 : a.tmps.getD 63 undef = .int .i64 1 := hk.fact 3 _ 63 rfl rfl rfl rfl
    have e62 : a.tmps.getD 62 undef = .bool true := hk.fact 2 _ 62 rfl rfl rfl rfl
    exact ob_eqlInt true rfl e63 rfl (by simp) (wanted_of rfl rfl rfl e62) rfl
  · refine ⟨stable_det _, ?_⟩
    intro a w O hk
    have e62 : a.tmps.getD 62 undef = .bool true := hk.fact 2 _ 62 rfl rfl rfl rfl
    have e64 : a.tmps.getD 64 undef = .bool true := hk.fact 4 _ 64 rfl rfl rfl rfl
    exact ob_pick rfl e62 e64 (wanted_none rfl) rfl
  · refine ⟨stable_det _, ?_⟩
    intro a w O hk
    have e65 : a.tmps.getD 65 undef = .bool true := hk.fact 5 _ 65 rfl rfl rfl rfl
    exact ob_move rfl e65 (wanted_none rfl) rfl
  · refine ⟨stable_det _, ?_⟩
    intro a w O hk
    have e17 : a.tmps.getD 17 undef = .int .i64 4 := (hk.init 17 (initialB_of_nw nw17)).trans hi17
    have e66 : a.tmps.getD 66 undef = .bool true := hk.fact 6 _ 66 rfl rfl rfl rfl
    exact ob_move rfl e17 (wanted_of rfl rfl rfl e66) rfl
  · refine ⟨stable_det _, ?_⟩
    intro a w O hk
    have e67 : a.tmps.getD 67 undef = .int .i64 4 := hk.fact 7 _ 67 rfl rfl rfl rfl
    have e66 : a.tmps.getD 66 undef = .bool true := hk.fact 6 _ 66 rfl rfl rfl rfl
    exact ob_eqlInt false rfl e67 rfl (by decide) (wanted_of rfl rfl rfl e66) rfl
  · refine ⟨stable_det _, ?_⟩
    intro a w O hk
    have e3 : a.tmps.getD 3 undef = .pointer (some ⟨g, 0, none⟩) := (hk.init 3 (initialB_of_nw nw3)).trans hi3
    have e66 : a.tmps.getD 66 undef = .bool true := hk.fact 6 _ 66 rfl rfl rfl rfl
    have hc := (hk.world.cell (p := ⟨g, 0, none⟩) (World.block_lt_of_cell? w0 _ hg)).trans hg
    exact ob_loadInt rfl e3 Try.underlying3 hc (wanted_of rfl rfl rfl e66) rfl
  · refine ⟨stable_det _, ?_⟩
    intro a w O hk
    have e69 : a.tmps.getD 69 undef = .int .i64 k := hk.fact 9 _ 69 rfl rfl rfl rfl
    have e66 : a.tmps.getD 66 undef = .bool true := hk.fact 6 _ 66 rfl rfl rfl rfl
    exact ob_bin rfl e69 rfl (run_geqB _ _ _ (by simp; omega)) (by decide) (wanted_of rfl rfl rfl e66) rfl
  · refine ⟨stable_det _, ?_⟩
    intro a w O hk
    have e70 : a.tmps.getD 70 undef = .bool false := hk.fact 10 _ 70 rfl rfl rfl rfl
    have e66 : a.tmps.getD 66 undef = .bool true := hk.fact 6 _ 66 rfl rfl rfl rfl
    exact ob_move rfl e70 (wanted_of rfl rfl rfl e66) rfl
  · refine ⟨stable_det _, ?_⟩
    intro a w O hk
    have e3 : a.tmps.getD 3 undef = .pointer (some ⟨g, 0, none⟩) := (hk.init 3 (initialB_of_nw nw3)).trans hi3
    have e71 : a.tmps.getD 71 undef = .bool false := hk.fact 11 _ 71 rfl rfl rfl rfl
    exact ob_skip (unwanted_of rfl rfl rfl e71 (by decide)) rfl
  · refine ⟨stable_det _, ?_⟩
    intro a w O hk
    have e0 : a.tmps.getD 0 undef = .slice A n c := (hk.init 0 (initialB_of_nw nw0)).trans hi0
    have e71 : a.tmps.getD 71 undef = .bool false := hk.fact 11 _ 71 rfl rfl rfl rfl
    exact ob_skip (unwanted_of rfl rfl rfl e71 (by decide)) rfl
  · refine ⟨stable_det _, ?_⟩
    intro a w O hk
    have e73 : a.tmps.getD 73 undef = undef := hk.fact 13 _ 73 rfl rfl rfl rfl
    have e71 : a.tmps.getD 71 undef = .bool false := hk.fact 11 _ 71 rfl rfl rfl rfl
    exact ob_skip (unwanted_of rfl rfl rfl e71 (by decide)) rfl
  · refine ⟨stable_det _, ?_⟩
    intro a w O hk
    have e72 : a.tmps.getD 72 undef = undef := hk.fact 12 _ 72 rfl rfl rfl rfl
    have e74 : a.tmps.getD 74 undef = undef := hk.fact 14 _ 74 rfl rfl rfl rfl
    have e71 : a.tmps.getD 71 undef = .bool false := hk.fact 11 _ 71 rfl rfl rfl rfl
    exact ob_skip (unwanted_of rfl rfl rfl e71 (by decide)) rfl
  · refine ⟨stable_det _, ?_⟩
    intro a w O hk
    have e71 : a.tmps.getD 71 undef = .bool false := hk.fact 11 _ 71 rfl rfl rfl rfl
    have e75 : a.tmps.getD 75 undef = undef := hk.fact 15 _ 75 rfl rfl rfl rfl
    have e66 : a.tmps.getD 66 undef = .bool true := hk.fact 6 _ 66 rfl rfl rfl rfl
    exact ob_pick rfl e71 rfl (wanted_of rfl rfl rfl e66) rfl
  · refine ⟨stable_det _, ?_⟩
    intro a w O hk
    have e68 : a.tmps.getD 68 undef = .bool false := hk.fact 8 _ 68 rfl rfl rfl rfl
    have e76 : a.tmps.getD 76 undef = .bool false := hk.fact 16 _ 76 rfl rfl rfl rfl
    have e66 : a.tmps.getD 66 undef = .bool true := hk.fact 6 _ 66 rfl rfl rfl rfl
    exact ob_eqlBool true rfl e68 e76 Try.underlying4 (by decide) (wanted_of rfl rfl rfl e66) rfl
  · refine ⟨stable_det _, ?_⟩
    intro a w O hk
    have e66 : a.tmps.getD 66 undef = .bool true := hk.fact 6 _ 66 rfl rfl rfl rfl
    have e77 : a.tmps.getD 77 undef = .bool true := hk.fact 17 _ 77 rfl rfl rfl rfl
    exact ob_pick rfl e66 e77 (wanted_none rfl) rfl
  · refine ⟨stable_det _, ?_⟩
    intro a w O hk
    have e78 : a.tmps.getD 78 undef = .bool true := hk.fact 18 _ 78 rfl rfl rfl rfl
    exact ob_move rfl e78 (wanted_none rfl) rfl
  · refine ⟨stable_det _, ?_⟩
    intro a w O hk
    have e17 : a.tmps.getD 17 undef = .int .i64 4 := (hk.init 17 (initialB_of_nw nw17)).trans hi17
    have e79 : a.tmps.getD 79 undef = .bool true := hk.fact 19 _ 79 rfl rfl rfl rfl
    exact ob_move rfl e17 (wanted_of rfl rfl rfl e79) rfl
  · refine ⟨stable_det _, ?_⟩
    intro a w O hk
    have e80 : a.tmps.getD 80 undef = .int .i64 4 := hk.fact 20 _ 80 rfl rfl rfl rfl
    have e79 : a.tmps.getD 79 undef = .bool true := hk.fact 19 _ 79 rfl rfl rfl rfl
    exact ob_eqlInt false rfl e80 rfl (by decide) (wanted_of rfl rfl rfl e79) rfl
  · refine ⟨stable_det _, ?_⟩
    intro a w O hk
    have e81 : a.tmps.getD 81 undef = .bool false := hk.fact 21 _ 81 rfl rfl rfl rfl
    have e79 : a.tmps.getD 79 undef = .bool true := hk.fact 19 _ 79 rfl rfl rfl rfl
    exact ob_move rfl e81 (wanted_of rfl rfl rfl e79) rfl
  · refine ⟨stable_det _, ?_⟩
    intro a w O hk
    have e17 : a.tmps.getD 17 undef = .int .i64 4 := (hk.init 17 (initialB_of_nw nw17)).trans hi17
    have e82 : a.tmps.getD 82 undef = .bool false := hk.fact 22 _ 82 rfl rfl rfl rfl
    exact ob_move rfl e17 (wanted_of rfl rfl rfl e82) rfl
  · refine ⟨stable_det _, ?_⟩
    intro a w O hk
    have e83 : a.tmps.getD 83 undef = .int .i64 4 := hk.fact 23 _ 83 rfl rfl rfl rfl
    have e82 : a.tmps.getD 82 undef = .bool false := hk.fact 22 _ 82 rfl rfl rfl rfl
    exact ob_eqlInt true rfl e83 rfl (by decide) (wanted_of rfl rfl rfl e82) rfl
  · refine ⟨stable_det _, ?_⟩
    intro a w O hk
    have e82 : a.tmps.getD 82 undef = .bool false := hk.fact 22 _ 82 rfl rfl rfl rfl
    have e84 : a.tmps.getD 84 undef = .bool true := hk.fact 24 _ 84 rfl rfl rfl rfl
    have e79 : a.tmps.getD 79 undef = .bool true := hk.fact 19 _ 79 rfl rfl rfl rfl
    exact ob_pick rfl e82 e84 (wanted_of rfl rfl rfl e79) rfl
  · refine ⟨stable_det _, ?_⟩
    intro a w O hk
    have e79 : a.tmps.getD 79 undef = .bool true := hk.fact 19 _ 79 rfl rfl rfl rfl
    have e85 : a.tmps.getD 85 undef = .bool true := hk.fact 25 _ 85 rfl rfl rfl rfl
    exact ob_pick rfl e79 e85 (wanted_none rfl) rfl
  · refine ⟨stable_det _, ?_⟩
    intro a w O hk
    have e86 : a.tmps.getD 86 undef = .bool true := hk.fact 26 _ 86 rfl rfl rfl rfl
    exact ob_move rfl e86 (wanted_none rfl) rfl
  · refine ⟨stable_det _, ?_⟩
    intro a w O hk
    have e0 : a.tmps.getD 0 undef = .slice A n c := (hk.init 0 (initialB_of_nw nw0)).trans hi0
    have e87 : a.tmps.getD 87 undef = .bool true := hk.fact 27 _ 87 rfl rfl rfl rfl
    exact ob_move rfl e0 (wanted_of rfl rfl rfl e87) rfl
  · refine ⟨(fun _ _ _ _ _ _ _ => trivial), ?_⟩
    intro a w O hk
    have e87 : a.tmps.getD 87 undef = .bool true := hk.fact 27 _ 87 rfl rfl rfl rfl
    exact ob_new (fun _ => False) (wanted_of rfl rfl rfl e87) (by simp [execOp, go_sem]; exact ⟨rfl, rfl⟩) ((Below.refl _ _).alloc (Nat.le_refl _) _) trivial (fun _ h => h.elim)
  · refine ⟨stable_own _ _ _ _, ?_⟩
    intro a w O hk
    have e88 : a.tmps.getD 88 undef = .slice A n c := hk.fact 28 _ 88 rfl rfl rfl rfl
    have f89 := hk.fact 29 _ 89 rfl rfl rfl rfl
    have g89 := hk.owns 29 rfl rfl
    have e87 : a.tmps.getD 87 undef = .bool true := hk.fact 27 _ 87 rfl rfl rfl rfl
    refine ob_callFresh #[.slice A n c, a.tmps.getD 89 undef, .nilFunc] Try.func33 rfl rfl rfl (by show [a.tmps.getD 88 undef, a.tmps.getD 89 undef, Value.nilFunc] = [_, _, _]; rw [e88]) (wanted_of rfl rfl rfl e87) hk.base ?_
    exact putNil_calls A n c xs _ w (hr.below hk.world) hl
  · refine ⟨stable_det _, ?_⟩
    intro a w O hk
    have f90 := hk.fact 30 _ 90 rfl rfl rfl rfl
    have g90 := hk.owns 30 rfl rfl
    have e87 : a.tmps.getD 87 undef = .bool true := hk.fact 27 _ 87 rfl rfl rfl rfl
    exact ob_convert rfl rfl (own_string Try.underlying22 Try.underlying5 Try.underlying9 f90.1) (wanted_of rfl rfl rfl e87) rfl
  · refine ⟨stable_det _, ?_⟩
    intro a w O hk
    have e0 : a.tmps.getD 0 undef = .slice A n c := (hk.init 0 (initialB_of_nw nw0)).trans hi0
    have e87 : a.tmps.getD 87 undef = .bool true := hk.fact 27 _ 87 rfl rfl rfl rfl
    exact ob_move rfl e0 (wanted_of rfl rfl rfl e87) rfl
  · refine ⟨stable_det _, ?_⟩
    intro a w O hk
    have e92 : a.tmps.getD 92 undef = .slice A n c := hk.fact 32 _ 92 rfl rfl rfl rfl
    have e87 : a.tmps.getD 87 undef = .bool true := hk.fact 27 _ 87 rfl rfl rfl rfl
    exact ob_convert rfl e92 (string_of_reads Try.underlying22 Try.underlying5 Try.underlying9 (hr.below hk.world)) (wanted_of rfl rfl rfl e87) rfl
  · refine ⟨stable_det _, ?_⟩
    intro a w O hk
    have e91 : a.tmps.getD 91 undef = .string (strOfNums xs) := hk.fact 31 _ 91 rfl rfl rfl rfl
    have e93 : a.tmps.getD 93 undef = .string (strOfNums xs) := hk.fact 33 _ 93 rfl rfl rfl rfl
    have e87 : a.tmps.getD 87 undef = .bool true := hk.fact 27 _ 87 rfl rfl rfl rfl
    exact ob_eqlStr rfl e91 e93 rfl (wanted_of rfl rfl rfl e87) rfl
  · refine ⟨stable_det _, ?_⟩
    intro a w O hk
    have e87 : a.tmps.getD 87 undef = .bool true := hk.fact 27 _ 87 rfl rfl rfl rfl
    have e94 : a.tmps.getD 94 undef = .bool true := hk.fact 34 _ 94 rfl rfl rfl rfl
    exact ob_pick rfl e87 e94 (wanted_none rfl) rfl
  · refine ⟨stable_det _, ?_⟩
    intro a w O hk
    have e95 : a.tmps.getD 95 undef = .bool true := hk.fact 35 _ 95 rfl rfl rfl rfl
    exact ob_move rfl e95 (wanted_none rfl) rfl
  · refine ⟨stable_det _, ?_⟩
    intro a w O hk
    have e96 : a.tmps.getD 96 undef = .bool true := hk.fact 36 _ 96 rfl rfl rfl rfl
    refine ob_call #[] Try.func18 rfl rfl rfl rfl (wanted_of rfl rfl rfl e96) ((awake_calls w).mono ?_)
    rintro e w' ⟨rfl, hb⟩
    exact ⟨_, fun _ => False, rfl, rfl, Chg.of_below hb, fun _ h => h.elim⟩
  · refine ⟨stable_det _, ?_⟩
    intro a w O hk
    have e96 : a.tmps.getD 96 undef = .bool true := hk.fact 36 _ 96 rfl rfl rfl rfl
    have e97 : a.tmps.getD 97 undef = .bool true := hk.fact 37 _ 97 rfl rfl rfl rfl
    exact ob_pick rfl e96 e97 (wanted_none rfl) rfl
  · refine ⟨stable_det _, ?_⟩
    intro a w O hk
    have e98 : a.tmps.getD 98 undef = .bool true := hk.fact 38 _ 98 rfl rfl rfl rfl
    exact ob_assign rfl e98 (wanted_none rfl) rfl
set_option maxRecDepth 100000 in
set_option maxHeartbeats 4000000 in
theorem wolo_region {Q : Exit → Act → World → Prop} {id : Nat} (w0 : World) (A : Option Addr) (n c g : Nat) (xs : List Int) (k : Int) {s1 s2 s4 s5 s6 s7 s8 s9 s10 s12 s14 s15 s16 s18 s19 s20 s21 s22 s23 s24 s25 s26 s27 s28 s29 s30 s31 s32 s33 s34 s35 s36 s37 s38 s39 s40 s41 s42 s43 s44 s45 s46 s47 s48 s49 s50 s51 s52 s53 s54 s55 s56 s57 s58 s59 s60 s61 s62 s63 s64 s65 s66 s67 s68 s69 s70 s71 s72 s73 s74 s75 s76 s77 s78 s79 s80 s81 s82 s83 s84 s85 s86 s87 s88 s89 s90 s91 s92 s93 s94 s95 s96 s97 s98 : Value} (hr : ReadsInt w0 .u8 A n xs) (hg : w0.cell? ⟨g, 0, none⟩ = some (.int .i64 k)) (hl : n ≤ 140737488355000) (h1 : k < 1)
    (hend : ∀ (w' : World) (u89 : Value) (O89 : Nat → Prop) (u90 : Value) (O90 : Nat → Prop), Below w0.heap.size w0 w' → (True) → (∀ k, O89 k → w0.heap.size ≤ k ∧ k < w'.heap.size) → (OwnO w0.heap.size 5 1 xs.length (nums .u8 xs) u90 w' O90) → (∀ k, O90 k → w0.heap.size ≤ k ∧ k < w'.heap.size) → Q .normal { tmps := ((.slice A n c : Value) :: s1 :: s2 :: (.pointer (some ⟨g, 0, none⟩) : Value) :: (.bool true : Value) :: s5 :: s6 :: s7 :: s8 :: s9 :: s10 :: (.int .i64 1 : Value) :: s12 :: (.int .i64 1 : Value) :: s14 :: s15 :: s16 :: (.int .i64 4 : Value) :: s18 :: s19 :: s20 :: s21 :: s22 :: s23 :: s24 :: s25 :: s26 :: s27 :: s28 :: s29 :: s30 :: s31 :: s32 :: s33 :: s34 :: s35 :: s36 :: s37 :: s38 :: s39 :: s40 :: s41 :: s42 :: s43 :: s44 :: s45 :: s46 :: s47 :: s48 :: s49 :: s50 :: s51 :: s52 :: s53 :: s54 :: s55 :: s56 :: s57 :: s58 :: s59 :: (.int .i64 1 : Value) :: (.bool true : Value) :: (.bool true : Value) :: (.int .i64 1 : Value) :: (.bool true : Value) :: (.bool true : Value) :: (.bool true : Value) :: (.int .i64 4 : Value) :: (.bool false : Value) :: (.int .i64 k : Value) :: (.bool false : Value) :: (.bool false : Value) :: undef :: undef :: undef :: undef :: (.bool false : Value) :: (.bool true : Value) :: (.bool true : Value) :: (.bool true : Value) :: (.int .i64 4 : Value) :: (.bool false : Value) :: (.bool false : Value) :: (.int .i64 4 : Value) :: (.bool true : Value) :: (.bool true : Value) :: (.bool true : Value) :: (.bool true : Value) :: (.slice A n c : Value) :: u89 :: u90 :: (.string (strOfNums xs) : Value) :: (.slice A n c : Value) :: (.string (strOfNums xs) : Value) :: (.bool true : Value) :: (.bool true : Value) :: (.bool true : Value) :: (.bool true : Value) :: (.bool true : Value) :: ([] : List Value)).toArray, defers := [] } w') :
    (Code.region id wolo_ops.toArray true).wp Try.prog Q { tmps := ((.slice A n c : Value) :: s1 :: s2 :: (.pointer (some ⟨g, 0, none⟩) : Value) :: s4 :: s5 :: s6 :: s7 :: s8 :: s9 :: s10 :: (.int .i64 1 : Value) :: s12 :: (.int .i64 1 : Value) :: s14 :: s15 :: s16 :: (.int .i64 4 : Value) :: s18 :: s19 :: s20 :: s21 :: s22 :: s23 :: s24 :: s25 :: s26 :: s27 :: s28 :: s29 :: s30 :: s31 :: s32 :: s33 :: s34 :: s35 :: s36 :: s37 :: s38 :: s39 :: s40 :: s41 :: s42 :: s43 :: s44 :: s45 :: s46 :: s47 :: s48 :: s49 :: s50 :: s51 :: s52 :: s53 :: s54 :: s55 :: s56 :: s57 :: s58 :: s59 :: s60 :: s61 :: s62 :: s63 :: s64 :: s65 :: s66 :: s67 :: s68 :: s69 :: s70 :: s71 :: s72 :: s73 :: s74 :: s75 :: s76 :: s77 :: s78 :: s79 :: s80 :: s81 :: s82 :: s83 :: s84 :: s85 :: s86 :: s87 :: s88 :: s89 :: s90 :: s91 :: s92 :: s93 :: s94 :: s95 :: s96 :: s97 :: s98 :: ([] : List Value)).toArray, defers := [] } w0 := by
  refine wp_region_inv (by kernel_rfl) (w0.heap.size) wolo_C (wolo_F w0 A n c g xs k) (Nat.le_refl _) (by rfl) (by kernel_rfl) (wolo_obs w0.drew A n c g xs k hr hg hl h1 _ _ rfl rfl rfl rfl rfl) ?_
  intro a w' O hd hs hb hf hsame
  have x0 : a.tmps.getD 0 undef = .slice A n c := hsame 0 (nwB.spec (by kernel_rfl))
  have x1 : a.tmps.getD 1 undef = s1 := hsame 1 (nwB.spec (by kernel_rfl))
  have x2 : a.tmps.getD 2 undef = s2 := hsame 2 (nwB.spec (by kernel_rfl))
  have x3 : a.tmps.getD 3 undef = .pointer (some ⟨g, 0, none⟩) := hsame 3 (nwB.spec (by kernel_rfl))
  have x4 : a.tmps.getD 4 undef = .bool true := (hf 39 _ 4 rfl rfl (by decide)).1
  have x5 : a.tmps.getD 5 undef = s5 := hsame 5 (nwB.spec (by kernel_rfl))
  have x6 : a.tmps.getD 6 undef = s6 := hsame 6 (nwB.spec (by kernel_rfl))
  have x7 : a.tmps.getD 7 undef = s7 := hsame 7 (nwB.spec (by kernel_rfl))
  have x8 : a.tmps.getD 8 undef = s8 := hsame 8 (nwB.spec (by kernel_rfl))
  have x9 : a.tmps.getD 9 undef = s9 := hsame 9 (nwB.spec (by kernel_rfl))
  have x10 : a.tmps.getD 10 undef = s10 := hsame 10 (nwB.spec (by kernel_rfl))
  have x11 : a.tmps.getD 11 undef = .int .i64 1 := hsame 11 (nwB.spec (by kernel_rfl))
  have x12 : a.tmps.getD 12 undef = s12 := hsame 12 (nwB.spec (by kernel_rfl))
  have x13 : a.tmps.getD 13 undef = .int .i64 1 := hsame 13 (nwB.spec (by kernel_rfl))
  have x14 : a.tmps.getD 14 undef = s14 := hsame 14 (nwB.spec (by kernel_rfl))
  have x15 : a.tmps.getD 15 undef = s15 := hsame 15 (nwB.spec (by kernel_rfl))
  have x16 : a.tmps.getD 16 undef = s16 := hsame 16 (nwB.spec (by kernel_rfl))
  have x17 : a.tmps.getD 17 undef = .int .i64 4 := hsame 17 (nwB.spec (by kernel_rfl))
  have x18 : a.tmps.getD 18 undef = s18 := hsame 18 (nwB.spec (by kernel_rfl))
  have x19 : a.tmps.getD 19 undef = s19 := hsame 19 (nwB.spec (by kernel_rfl))
  have x20 : a.tmps.getD 20 undef = s20 := hsame 20 (nwB.spec (by kernel_rfl))
  have x21 : a.tmps.getD 21 undef = s21 := hsame 21 (nwB.spec (by kernel_rfl))
  have x22 : a.tmps.getD 22 undef = s22 := hsame 22 (nwB.spec (by kernel_rfl))
  have x23 : a.tmps.getD 23 undef = s23 := hsame 23 (nwB.spec (by kernel_rfl))
  have x24 : a.tmps.getD 24 undef = s24 := hsame 24 (nwB.spec (by kernel_rfl))
  have x25 : a.tmps.getD 25 undef = s25 := hsame 25 (nwB.spec (by kernel_rfl))
  have x26 : a.tmps.getD 26 undef = s26 := hsame 26 (nwB.spec (by kernel_rfl))
  have x27 : a.tmps.getD 27 undef = s27 := hsame 27 (nwB.spec (by kernel_rfl))
  have x28 : a.tmps.getD 28 undef = s28 := hsame 28 (nwB.spec (by kernel_rfl))
  have x29 : a.tmps.getD 29 undef = s29 := hsame 29 (nwB.spec (by kernel_rfl))
  have x30 : a.tmps.getD 30 undef = s30 := hsame 30 (nwB.spec (by kernel_rfl))
  have x31 : a.tmps.getD 31 undef = s31 := hsame 31 (nwB.spec (by kernel_rfl))
  have x32 : a.tmps.getD 32 undef = s32 := hsame 32 (nwB.spec (by kernel_rfl))
  have x33 : a.tmps.getD 33 undef = s33 := hsame 33 (nwB.spec (by kernel_rfl))
  have x34 : a.tmps.getD 34 undef = s34 := hsame 34 (nwB.spec (by kernel_rfl))
  have x35 : a.tmps.getD 35 undef = s35 := hsame 35 (nwB.spec (by kernel_rfl))
  have x36 : a.tmps.getD 36 undef = s36 := hsame 36 (nwB.spec (by kernel_rfl))
  have x37 : a.tmps.getD 37 undef = s37 := hsame 37 (nwB.spec (by kernel_rfl))
  have x38 : a.tmps.getD 38 undef = s38 := hsame 38 (nwB.spec (by kernel_rfl))
  have x39 : a.tmps.getD 39 undef = s39 := hsame 39 (nwB.spec (by kernel_rfl))
  have x40 : a.tmps.getD 40 undef = s40 := hsame 40 (nwB.spec (by kernel_rfl))
  have x41 : a.tmps.getD 41 undef = s41 := hsame 41 (nwB.spec (by kernel_rfl))
  have x42 : a.tmps.getD 42 undef = s42 := hsame 42 (nwB.spec (by kernel_rfl))
  have x43 : a.tmps.getD 43 undef = s43 := hsame 43 (nwB.spec (by kernel_rfl))
  have x44 : a.tmps.getD 44 undef = s44 := hsame 44 (nwB.spec (by kernel_rfl))
  have x45 : a.tmps.getD 45 undef = s45 := hsame 45 (nwB.spec (by kernel_rfl))
  have x46 : a.tmps.getD 46 undef = s46 := hsame 46 (nwB.spec (by kernel_rfl))
  have x47 : a.tmps.getD 47 undef = s47 := hsame 47 (nwB.spec (by kernel_rfl))
  have x48 : a.tmps.getD 48 undef = s48 := hsame 48 (nwB.spec (by kernel_rfl))
  have x49 : a.tmps.getD 49 undef = s49 := hsame 49 (nwB.spec (by kernel_rfl))
  have x50 : a.tmps.getD 50 undef = s50 := hsame 50 (nwB.spec (by kernel_rfl))
  have x51 : a.tmps.getD 51 undef = s51 := hsame 51 (nwB.spec (by kernel_rfl))
  have x52 : a.tmps.getD 52 undef = s52 := hsame 52 (nwB.spec (by kernel_rfl))
  have x53 : a.tmps.getD 53 undef = s53 := hsame 53 (nwB.spec (by kernel_rfl))
  have x54 : a.tmps.getD 54 undef = s54 := hsame 54 (nwB.spec (by kernel_rfl))
  have x55 : a.tmps.getD 55 undef = s55 := hsame 55 (nwB.spec (by kernel_rfl))
  have x56 : a.tmps.getD 56 undef = s56 := hsame 56 (nwB.spec (by kernel_rfl))
  have x57 : a.tmps.getD 57 undef = s57 := hsame 57 (nwB.spec (by kernel_rfl))
  have x58 : a.tmps.getD 58 undef = s58 := hsame 58 (nwB.spec (by kernel_rfl))
  have x59 : a.tmps.getD 59 undef = s59 := hsame 59 (nwB.spec (by kernel_rfl))
  have x60 : a.tmps.getD 60 undef = .int .i64 1 := (hf 0 _ 60 rfl rfl (by decide)).1
  have x61 : a.tmps.getD 61 undef = .bool true := (hf 1 _ 61 rfl rfl (by decide)).1
  have x62 : a.tmps.getD 62 undef = .bool true := (hf 2 _ 62 rfl rfl (by decide)).1
  have x63 : a.tmps.getD 63 undef = .int .i64 1 := (hf 3 _ 63 rfl rfl (by decide)).1
  have x64 : a.tmps.getD 64 undef = .bool true := (hf 4 _ 64 rfl rfl (by decide)).1
  have x65 : a.tmps.getD 65 undef = .bool true := (hf 5 _ 65 rfl rfl (by decide)).1
  have x66 : a.tmps.getD 66 undef = .bool true := (hf 6 _ 66 rfl rfl (by decide)).1
  have x67 : a.tmps.getD 67 undef = .int .i64 4 := (hf 7 _ 67 rfl rfl (by decide)).1
  have x68 : a.tmps.getD 68 undef = .bool false := (hf 8 _ 68 rfl rfl (by decide)).1
  have x69 : a.tmps.getD 69 undef = .int .i64 k := (hf 9 _ 69 rfl rfl (by decide)).1
  have x70 : a.tmps.getD 70 undef = .bool false := (hf 10 _ 70 rfl rfl (by decide)).1
  have x71 : a.tmps.getD 71 undef = .bool false := (hf 11 _ 71 rfl rfl (by decide)).1
  have x72 : a.tmps.getD 72 undef = undef := (hf 12 _ 72 rfl rfl (by decide)).1
  have x73 : a.tmps.getD 73 undef = undef := (hf 13 _ 73 rfl rfl (by decide)).1
  have x74 : a.tmps.getD 74 undef = undef := (hf 14 _ 74 rfl rfl (by decide)).1
  have x75 : a.tmps.getD 75 undef = undef := (hf 15 _ 75 rfl rfl (by decide)).1
  have x76 : a.tmps.getD 76 undef = .bool false := (hf 16 _ 76 rfl rfl (by decide)).1
  have x77 : a.tmps.getD 77 undef = .bool true := (hf 17 _ 77 rfl rfl (by decide)).1
  have x78 : a.tmps.getD 78 undef = .bool true := (hf 18 _ 78 rfl rfl (by decide)).1
  have x79 : a.tmps.getD 79 undef = .bool true := (hf 19 _ 79 rfl rfl (by decide)).1
  have x80 : a.tmps.getD 80 undef = .int .i64 4 := (hf 20 _ 80 rfl rfl (by decide)).1
  have x81 : a.tmps.getD 81 undef = .bool false := (hf 21 _ 81 rfl rfl (by decide)).1
  have x82 : a.tmps.getD 82 undef = .bool false := (hf 22 _ 82 rfl rfl (by decide)).1
  have x83 : a.tmps.getD 83 undef = .int .i64 4 := (hf 23 _ 83 rfl rfl (by decide)).1
  have x84 : a.tmps.getD 84 undef = .bool true := (hf 24 _ 84 rfl rfl (by decide)).1
  have x85 : a.tmps.getD 85 undef = .bool true := (hf 25 _ 85 rfl rfl (by decide)).1
  have x86 : a.tmps.getD 86 undef = .bool true := (hf 26 _ 86 rfl rfl (by decide)).1
  have x87 : a.tmps.getD 87 undef = .bool true := (hf 27 _ 87 rfl rfl (by decide)).1
  have x88 : a.tmps.getD 88 undef = .slice A n c := (hf 28 _ 88 rfl rfl (by decide)).1
  have x91 : a.tmps.getD 91 undef = .string (strOfNums xs) := (hf 31 _ 91 rfl rfl (by decide)).1
  have x92 : a.tmps.getD 92 undef = .slice A n c := (hf 32 _ 92 rfl rfl (by decide)).1
  have x93 : a.tmps.getD 93 undef = .string (strOfNums xs) := (hf 33 _ 93 rfl rfl (by decide)).1
  have x94 : a.tmps.getD 94 undef = .bool true := (hf 34 _ 94 rfl rfl (by decide)).1
  have x95 : a.tmps.getD 95 undef = .bool true := (hf 35 _ 95 rfl rfl (by decide)).1
  have x96 : a.tmps.getD 96 undef = .bool true := (hf 36 _ 96 rfl rfl (by decide)).1
  have x97 : a.tmps.getD 97 undef = .bool true := (hf 37 _ 97 rfl rfl (by decide)).1
  have x98 : a.tmps.getD 98 undef = .bool true := (hf 38 _ 98 rfl rfl (by decide)).1
  have hl : a.tmps = ((.slice A n c : Value) :: s1 :: s2 :: (.pointer (some ⟨g, 0, none⟩) : Value) :: (.bool true : Value) :: s5 :: s6 :: s7 :: s8 :: s9 :: s10 :: (.int .i64 1 : Value) :: s12 :: (.int .i64 1 : Value) :: s14 :: s15 :: s16 :: (.int .i64 4 : Value) :: s18 :: s19 :: s20 :: s21 :: s22 :: s23 :: s24 :: s25 :: s26 :: s27 :: s28 :: s29 :: s30 :: s31 :: s32 :: s33 :: s34 :: s35 :: s36 :: s37 :: s38 :: s39 :: s40 :: s41 :: s42 :: s43 :: s44 :: s45 :: s46 :: s47 :: s48 :: s49 :: s50 :: s51 :: s52 :: s53 :: s54 :: s55 :: s56 :: s57 :: s58 :: s59 :: (.int .i64 1 : Value) :: (.bool true : Value) :: (.bool true : Value) :: (.int .i64 1 : Value) :: (.bool true : Value) :: (.bool true : Value) :: (.bool true : Value) :: (.int .i64 4 : Value) :: (.bool false : Value) :: (.int .i64 k : Value) :: (.bool false : Value) :: (.bool false : Value) :: undef :: undef :: undef :: undef :: (.bool false : Value) :: (.bool true : Value) :: (.bool true : Value) :: (.bool true : Value) :: (.int .i64 4 : Value) :: (.bool false : Value) :: (.bool false : Value) :: (.int .i64 4 : Value) :: (.bool true : Value) :: (.bool true : Value) :: (.bool true : Value) :: (.bool true : Value) :: (.slice A n c : Value) :: (a.tmps.getD 89 undef : Value) :: (a.tmps.getD 90 undef : Value) :: (.string (strOfNums xs) : Value) :: (.slice A n c : Value) :: (.string (strOfNums xs) : Value) :: (.bool true : Value) :: (.bool true : Value) :: (.bool true : Value) :: (.bool true : Value) :: (.bool true : Value) :: ([] : List Value)).toArray := by
    have h := lit a.tmps 99 hs
    have e : ((List.range 99).map (fun i => a.tmps.getD i undef)).toArray = ((a.tmps.getD 0 undef : Value) :: (a.tmps.getD 1 undef : Value) :: (a.tmps.getD 2 undef : Value) :: (a.tmps.getD 3 undef : Value) :: (a.tmps.getD 4 undef : Value) :: (a.tmps.getD 5 undef : Value) :: (a.tmps.getD 6 undef : Value) :: (a.tmps.getD 7 undef : Value) :: (a.tmps.getD 8 undef : Value) :: (a.tmps.getD 9 undef : Value) :: (a.tmps.getD 10 undef : Value) :: (a.tmps.getD 11 undef : Value) :: (a.tmps.getD 12 undef : Value) :: (a.tmps.getD 13 undef : Value) :: (a.tmps.getD 14 undef : Value) :: (a.tmps.getD 15 undef : Value) :: (a.tmps.getD 16 undef : Value) :: (a.tmps.getD 17 undef : Value) :: (a.tmps.getD 18 undef : Value) :: (a.tmps.getD 19 undef : Value) :: (a.tmps.getD 20 undef : Value) :: (a.tmps.getD 21 undef : Value) :: (a.tmps.getD 22 undef : Value) :: (a.tmps.getD 23 undef : Value) :: (a.tmps.getD 24 undef : Value) :: (a.tmps.getD 25 undef : Value) :: (a.tmps.getD 26 undef : Value) :: (a.tmps.getD 27 undef : Value) :: (a.tmps.getD 28 undef : Value) :: (a.tmps.getD 29 undef : Value) :: (a.tmps.getD 30 undef : Value) :: (a.tmps.getD 31 undef : Value) :: (a.tmps.getD 32 undef : Value) :: (a.tmps.getD 33 undef : Value) :: (a.tmps.getD 34 undef : Value) :: (a.tmps.getD 35 undef : Value) :: (a.tmps.getD 36 undef : Value) :: (a.tmps.getD 37 undef : Value) :: (a.tmps.getD 38 undef : Value) :: (a.tmps.getD 39 undef : Value) :: (a.tmps.getD 40 undef : Value) :: (a.tmps.getD 41 undef : Value) :: (a.tmps.getD 42 undef : Value) :: (a.tmps.getD 43 undef : Value) :: (a.tmps.getD 44 undef : Value) :: (a.tmps.getD 45 undef : Value) :: (a.tmps.getD 46 undef : Value) :: (a.tmps.getD 47 undef : Value) :: (a.tmps.getD 48 undef : Value) :: (a.tmps.getD 49 undef : Value) :: (a.tmps.getD 50 undef : Value) :: (a.tmps.getD 51 undef : Value) :: (a.tmps.getD 52 undef : Value) :: (a.tmps.getD 53 undef : Value) :: (a.tmps.getD 54 undef : Value) :: (a.tmps.getD 55 undef : Value) :: (a.tmps.getD 56 undef : Value) :: (a.tmps.getD 57 undef : Value) :: (a.tmps.getD 58 undef : Value) :: (a.tmps.getD 59 undef : Value) :: (a.tmps.getD 60 undef : Value) :: (a.tmps.getD 61 undef : Value) :: (a.tmps.getD 62 undef : Value) :: (a.tmps.getD 63 undef : Value) :: (a.tmps.getD 64 undef : Value) :: (a.tmps.getD 65 undef : Value) :: (a.tmps.getD 66 undef : Value) :: (a.tmps.getD 67 undef : Value) :: (a.tmps.getD 68 undef : Value) :: (a.tmps.getD 69 undef : Value) :: (a.tmps.getD 70 undef : Value) :: (a.tmps.getD 71 undef : Value) :: (a.tmps.getD 72 undef : Value) :: (a.tmps.getD 73 undef : Value) :: (a.tmps.getD 74 undef : Value) :: (a.tmps.getD 75 undef : Value) :: (a.tmps.getD 76 undef : Value) :: (a.tmps.getD 77 undef : Value) :: (a.tmps.getD 78 undef : Value) :: (a.tmps.getD 79 undef : Value) :: (a.tmps.getD 80 undef : Value) :: (a.tmps.getD 81 undef : Value) :: (a.tmps.getD 82 undef : Value) :: (a.tmps.getD 83 undef : Value) :: (a.tmps.getD 84 undef : Value) :: (a.tmps.getD 85 undef : Value) :: (a.tmps.getD 86 undef : Value) :: (a.tmps.getD 87 undef : Value) :: (a.tmps.getD 88 undef : Value) :: (a.tmps.getD 89 undef : Value) :: (a.tmps.getD 90 undef : Value) :: (a.tmps.getD 91 undef : Value) :: (a.tmps.getD 92 undef : Value) :: (a.tmps.getD 93 undef : Value) :: (a.tmps.getD 94 undef : Value) :: (a.tmps.getD 95 undef : Value) :: (a.tmps.getD 96 undef : Value) :: (a.tmps.getD 97 undef : Value) :: (a.tmps.getD 98 undef : Value) :: ([] : List Value)).toArray := rfl
    rw [e, x0, x1, x2, x3, x4, x5, x6, x7, x8, x9, x10, x11, x12, x13, x14, x15, x16, x17, x18, x19, x20, x21, x22, x23, x24, x25, x26, x27, x28, x29, x30, x31, x32, x33, x34, x35, x36, x37, x38, x39, x40, x41, x42, x43, x44, x45, x46, x47, x48, x49, x50, x51, x52, x53, x54, x55, x56, x57, x58, x59, x60, x61, x62, x63, x64, x65, x66, x67, x68, x69, x70, x71, x72, x73, x74, x75, x76, x77, x78, x79, x80, x81, x82, x83, x84, x85, x86, x87, x88, x91, x92, x93, x94, x95, x96, x97, x98] at h
    exact h
  obtain ⟨tmps, defers⟩ := a
  obtain rfl : defers = [] := hd
  have hl' : tmps = _ := hl
  rw [hl']
  exact hend w' _ (O 29) _ (O 30) ⟨hb.os, hb.tape, hb.output, hb.size, hb.block⟩ (hf 29 _ 89 rfl rfl (by decide)).1 (hf 29 _ 89 rfl rfl (by decide)).2 (hf 30 _ 90 rfl rfl (by decide)).1 (hf 30 _ 90 rfl rfl (by decide)).2

def wohi_ops : List Oper := [
  { dst := some 60, op := Go.Op.move (Go.Operand.tmp 11), type := 24, pos := "law.go:92", after := #[], guard := none },
  { dst := some 61, op := Go.Op.binOp Go.BinOp.eql 24 (Go.Operand.tmp 60) (Go.Operand.const (Go.Value.int Go.IntKind.i64 1)) 24, type := 4, pos := "law.go:92", after := #[{ on := 0, ground := Go.Ground.data }], guard := none },
  { dst := some 62, op := Go.Op.move (Go.Operand.tmp 61), type := 4, pos := "law.go:92", after := #[{ on := 1, ground := Go.Ground.data }], guard := none },
  { dst := some 63, op := Go.Op.move (Go.Operand.tmp 13), type := 24, pos := "law.go:92", after := #[{ on := 2, ground := Go.Ground.guard }], guard := some (2, true) },
  { dst := some 64, op := Go.Op.binOp Go.BinOp.eql 24 (Go.Operand.tmp 63) (Go.Operand.const (Go.Value.int Go.IntKind.i64 1)) 24, type := 4, pos := "law.go:92", after := #[{ on := 3, ground := Go.Ground.data }, { on := 2, ground := Go.Ground.guard }], guard := some (2, true) },
  { dst := some 65, op := Go.Op.pick (Go.Operand.tmp 62) (Go.Operand.tmp 64) (Go.Operand.const (Go.Value.bool false)), type := 4, pos := "law.go:92", after := #[{ on := 2, ground := Go.Ground.data }, { on := 4, ground := Go.Ground.data }], guard := none },
  { dst := some 66, op := Go.Op.move (Go.Operand.tmp 65), type := 4, pos := "law.go:92", after := #[{ on := 5, ground := Go.Ground.data }, { on := 2, ground := Go.Ground.chain }], guard := none },
  { dst := some 67, op := Go.Op.move (Go.Operand.tmp 17), type := 24, pos := "law.go:92", after := #[{ on := 6, ground := Go.Ground.guard }], guard := some (6, true) },
  { dst := some 68, op := Go.Op.binOp Go.BinOp.eql 24 (Go.Operand.tmp 67) (Go.Operand.const (Go.Value.int Go.IntKind.i64 0)) 24, type := 4, pos := "law.go:92", after := #[{ on := 7, ground := Go.Ground.data }, { on := 6, ground := Go.Ground.guard }], guard := some (6, true) },
  { dst := some 69, op := Go.Op.load 3 (Go.Operand.tmp 3), type := 3, pos := "law.go:92", after := #[{ on := 6, ground := Go.Ground.guard }], guard := some (6, true) },
  { dst := some 70, op := Go.Op.binOp Go.BinOp.geq 3 (Go.Operand.tmp 69) (Go.Operand.const (Go.Value.int Go.IntKind.i64 1)) 3, type := 4, pos := "law.go:92", after := #[{ on := 9, ground := Go.Ground.data }, { on := 6, ground := Go.Ground.guard }], guard := some (6, true) },
  { dst := some 71, op := Go.Op.move (Go.Operand.tmp 70), type := 4, pos := "law.go:92", after := #[{ on := 10, ground := Go.Ground.data }, { on := 6, ground := Go.Ground.chain }, { on := 6, ground := Go.Ground.guard }], guard := some (6, true) },
  { dst := some 72, op := Go.Op.load 3 (Go.Operand.tmp 3), type := 3, pos := "law.go:92", after := #[{ on := 11, ground := Go.Ground.guard }], guard := some (11, true) },
  { dst := some 73, op := Go.Op.move (Go.Operand.tmp 0), type := 22, pos := "law.go:92", after := #[{ on := 11, ground := Go.Ground.guard }], guard := some (11, true) },
  { dst := some 74, op := Go.Op.call { callee := Go.Callee.builtin Go.Builtin.len, args := #[Go.Operand.tmp 73], argTypes := #[22] }, type := 3, pos := "law.go:92", after := #[{ on := 13, ground := Go.Ground.data }, { on := 11, ground := Go.Ground.guard }], guard := some (11, true) },
  { dst := some 75, op := Go.Op.binOp Go.BinOp.leq 3 (Go.Operand.tmp 72) (Go.Operand.tmp 74) 3, type := 4, pos := "law.go:92", after := #[{ on := 12, ground := Go.Ground.data }, { on := 14, ground := Go.Ground.data }, { on := 11, ground := Go.Ground.guard }], guard := some (11, true) },
  { dst := some 76, op := Go.Op.pick (Go.Operand.tmp 71) (Go.Operand.tmp 75) (Go.Operand.const (Go.Value.bool false)), type := 4, pos := "law.go:92", after := #[{ on := 11, ground := Go.Ground.data }, { on := 15, ground := Go.Ground.data }, { on := 6, ground := Go.Ground.guard }], guard := some (6, true) },
  { dst := some 77, op := Go.Op.binOp Go.BinOp.eql 4 (Go.Operand.tmp 68) (Go.Operand.tmp 76) 4, type := 4, pos := "law.go:92", after := #[{ on := 8, ground := Go.Ground.data }, { on := 16, ground := Go.Ground.data }, { on := 6, ground := Go.Ground.guard }], guard := some (6, true) },
  { dst := some 78, op := Go.Op.pick (Go.Operand.tmp 66) (Go.Operand.tmp 77) (Go.Operand.const (Go.Value.bool false)), type := 4, pos := "law.go:92", after := #[{ on := 6, ground := Go.Ground.data }, { on := 17, ground := Go.Ground.data }], guard := none },
  { dst := some 79, op := Go.Op.move (Go.Operand.tmp 78), type := 4, pos := "law.go:92", after := #[{ on := 18, ground := Go.Ground.data }, { on := 11, ground := Go.Ground.chain }], guard := none },
  { dst := some 80, op := Go.Op.move (Go.Operand.tmp 17), type := 24, pos := "law.go:92", after := #[{ on := 19, ground := Go.Ground.guard }], guard := some (19, true) },
  { dst := some 81, op := Go.Op.binOp Go.BinOp.eql 24 (Go.Operand.tmp 80) (Go.Operand.const (Go.Value.int Go.IntKind.i64 0)) 24, type := 4, pos := "law.go:92", after := #[{ on := 20, ground := Go.Ground.data }, { on := 19, ground := Go.Ground.guard }], guard := some (19, true) },
  { dst := some 82, op := Go.Op.move (Go.Operand.tmp 81), type := 4, pos := "law.go:92", after := #[{ on := 21, ground := Go.Ground.data }, { on := 19, ground := Go.Ground.chain }, { on := 19, ground := Go.Ground.guard }], guard := some (19, true) },
  { dst := some 83, op := Go.Op.move (Go.Operand.tmp 17), type := 24, pos := "law.go:92", after := #[{ on := 22, ground := Go.Ground.guard }], guard := some (22, false) },
  { dst := some 84, op := Go.Op.binOp Go.BinOp.eql 24 (Go.Operand.tmp 83) (Go.Operand.const (Go.Value.int Go.IntKind.i64 4)) 24, type := 4, pos := "law.go:92", after := #[{ on := 23, ground := Go.Ground.data }, { on := 22, ground := Go.Ground.guard }], guard := some (22, false) },
  { dst := some 85, op := Go.Op.pick (Go.Operand.tmp 82) (Go.Operand.const (Go.Value.bool true)) (Go.Operand.tmp 84), type := 4, pos := "law.go:92", after := #[{ on := 22, ground := Go.Ground.data }, { on := 24, ground := Go.Ground.data }, { on := 19, ground := Go.Ground.guard }], guard := some (19, true) },
  { dst := some 86, op := Go.Op.pick (Go.Operand.tmp 79) (Go.Operand.tmp 85) (Go.Operand.const (Go.Value.bool false)), type := 4, pos := "law.go:92", after := #[{ on := 19, ground := Go.Ground.data }, { on := 25, ground := Go.Ground.data }], guard := none },
  { dst := some 87, op := Go.Op.move (Go.Operand.tmp 86), type := 4, pos := "law.go:92", after := #[{ on := 26, ground := Go.Ground.data }, { on := 22, ground := Go.Ground.chain }], guard := none },
  { dst := some 88, op := Go.Op.move (Go.Operand.tmp 0), type := 22, pos := "law.go:92", after := #[{ on := 27, ground := Go.Ground.guard }], guard := some (27, true) },
  { dst := some 89, op := Go.Op.buildSlice 56 1 #[(0, Go.Operand.const (Go.Value.int Go.IntKind.i64 1))], type := 56, pos := "law.go:92", after := #[{ on := 27, ground := Go.Ground.guard }], guard := some (27, true) },
  { dst := some 90, op := Go.Op.call { callee := Go.Callee.value (Go.Operand.func 33), args := #[Go.Operand.tmp 88, Go.Operand.tmp 89, Go.Operand.const Go.Value.nilFunc], argTypes := #[22, 56, 64] }, type := 22, pos := "law.go:92", after := #[{ on := 28, ground := Go.Ground.data }, { on := 29, ground := Go.Ground.data }, { on := 27, ground := Go.Ground.chain }, { on := 27, ground := Go.Ground.guard }], guard := some (27, true) },
  { dst := some 91, op := Go.Op.convert 22 9 (Go.Operand.tmp 90), type := 9, pos := "law.go:92", after := #[{ on := 30, ground := Go.Ground.data }, { on := 27, ground := Go.Ground.guard }], guard := some (27, true) },
  { dst := some 92, op := Go.Op.move (Go.Operand.tmp 0), type := 22, pos := "law.go:92", after := #[{ on := 27, ground := Go.Ground.guard }], guard := some (27, true) },
  { dst := some 93, op := Go.Op.convert 22 9 (Go.Operand.tmp 92), type := 9, pos := "law.go:92", after := #[{ on := 32, ground := Go.Ground.data }, { on := 27, ground := Go.Ground.guard }], guard := some (27, true) },
  { dst := some 94, op := Go.Op.binOp Go.BinOp.eql 9 (Go.Operand.tmp 91) (Go.Operand.tmp 93) 9, type := 4, pos := "law.go:92", after := #[{ on := 31, ground := Go.Ground.data }, { on := 33, ground := Go.Ground.data }, { on := 27, ground := Go.Ground.guard }], guard := some (27, true) },
  { dst := some 95, op := Go.Op.pick (Go.Operand.tmp 87) (Go.Operand.tmp 94) (Go.Operand.const (Go.Value.bool false)), type := 4, pos := "law.go:92", after := #[{ on := 27, ground := Go.Ground.data }, { on := 34, ground := Go.Ground.data }], guard := none },
  { dst := some 96, op := Go.Op.move (Go.Operand.tmp 95), type := 4, pos := "law.go:92", after := #[{ on := 35, ground := Go.Ground.data }, { on := 30, ground := Go.Ground.chain }], guard := none },
  { dst := some 97, op := Go.Op.call { callee := Go.Callee.value (Go.Operand.func 18), args := #[], argTypes := #[] }, type := 4, pos := "law.go:92", after := #[{ on := 36, ground := Go.Ground.chain }, { on := 36, ground := Go.Ground.guard }], guard := some (36, true) },
  { dst := some 98, op := Go.Op.pick (Go.Operand.tmp 96) (Go.Operand.tmp 97) (Go.Operand.const (Go.Value.bool false)), type := 4, pos := "law.go:92", after := #[{ on := 36, ground := Go.Ground.data }, { on := 37, ground := Go.Ground.data }], guard := none },
  { dst := some 4, op := Go.Op.assign (Go.Operand.tmp 98), type := 4, pos := "law.go:92", after := #[{ on := 38, ground := Go.Ground.data }, { on := 37, ground := Go.Ground.chain }, { on := 0, ground := Go.Ground.phase }, { on := 1, ground := Go.Ground.phase }, { on := 2, ground := Go.Ground.phase }, { on := 3, ground := Go.Ground.phase }, { on := 4, ground := Go.Ground.phase }, { on := 5, ground := Go.Ground.phase }, { on := 6, ground := Go.Ground.phase }, { on := 7, ground := Go.Ground.phase }, { on := 8, ground := Go.Ground.phase }, { on := 9, ground := Go.Ground.phase }, { on := 10, ground := Go.Ground.phase }, { on := 11, ground := Go.Ground.phase }, { on := 12, ground := Go.Ground.phase }, { on := 13, ground := Go.Ground.phase }, { on := 14, ground := Go.Ground.phase }, { on := 15, ground := Go.Ground.phase }, { on := 16, ground := Go.Ground.phase }, { on := 17, ground := Go.Ground.phase }, { on := 18, ground := Go.Ground.phase }, { on := 19, ground := Go.Ground.phase }, { on := 20, ground := Go.Ground.phase }, { on := 21, ground := Go.Ground.phase }, { on := 22, ground := Go.Ground.phase }, { on := 23, ground := Go.Ground.phase }, { on := 24, ground := Go.Ground.phase }, { on := 25, ground := Go.Ground.phase }, { on := 26, ground := Go.Ground.phase }, { on := 27, ground := Go.Ground.phase }, { on := 28, ground := Go.Ground.phase }, { on := 29, ground := Go.Ground.phase }, { on := 30, ground := Go.Ground.phase }, { on := 31, ground := Go.Ground.phase }, { on := 32, ground := Go.Ground.phase }, { on := 33, ground := Go.Ground.phase }, { on := 34, ground := Go.Ground.phase }, { on := 35, ground := Go.Ground.phase }, { on := 36, ground := Go.Ground.phase }, { on := 37, ground := Go.Ground.phase }, { on := 38, ground := Go.Ground.phase }], guard := none }]
def wohi_F (w0 : World) (A : Option Addr) (n c g : Nat) (xs : List Int) (k : Int) : Nat → Value → World → (Nat → Prop) → Prop := fun i => match i with
  | 0 => fun v _ _ => v = .int .i64 1
  | 1 => fun v _ _ => v = .bool true
  | 2 => fun v _ _ => v = .bool true
  | 3 => fun v _ _ => v = .int .i64 1
  | 4 => fun v _ _ => v = .bool true
  | 5 => fun v _ _ => v = .bool true
  | 6 => fun v _ _ => v = .bool true
  | 7 => fun v _ _ => v = .int .i64 4
  | 8 => fun v _ _ => v = .bool false
  | 9 => fun v _ _ => v = .int .i64 k
  | 10 => fun v _ _ => v = .bool true
  | 11 => fun v _ _ => v = .bool true
  | 12 => fun v _ _ => v = .int .i64 k
  | 13 => fun v _ _ => v = .slice A n c
  | 14 => fun v _ _ => v = .int .i64 (n : Int)
  | 15 => fun v _ _ => v = .bool false
  | 16 => fun v _ _ => v = .bool false
  | 17 => fun v _ _ => v = .bool true
  | 18 => fun v _ _ => v = .bool true
  | 19 => fun v _ _ => v = .bool true
  | 20 => fun v _ _ => v = .int .i64 4
  | 21 => fun v _ _ => v = .bool false
  | 22 => fun v _ _ => v = .bool false
  | 23 => fun v _ _ => v = .int .i64 4
  | 24 => fun v _ _ => v = .bool true
  | 25 => fun v _ _ => v = .bool true
  | 26 => fun v _ _ => v = .bool true
  | 27 => fun v _ _ => v = .bool true
  | 28 => fun v _ _ => v = .slice A n c
  | 29 => fun v w O => True
  | 30 => fun v w O => OwnO w0.heap.size 5 1 xs.length (nums .u8 xs) v w O
  | 31 => fun v _ _ => v = .string (strOfNums xs)
  | 32 => fun v _ _ => v = .slice A n c
  | 33 => fun v _ _ => v = .string (strOfNums xs)
  | 34 => fun v _ _ => v = .bool true
  | 35 => fun v _ _ => v = .bool true
  | 36 => fun v _ _ => v = .bool true
  | 37 => fun v _ _ => v = .bool true
  | 38 => fun v _ _ => v = .bool true
  | 39 => fun v _ _ => v = .bool true
  | _ => fun _ _ _ => True
def wohi_C : Nat → List Nat := fun i => match i with
  | _ => []
theorem wohi_nw0 : nwB wohi_ops.toArray 0 = true := by kernel_rfl
theorem wohi_nw3 : nwB wohi_ops.toArray 3 = true := by kernel_rfl
theorem wohi_nw11 : nwB wohi_ops.toArray 11 = true := by kernel_rfl
theorem wohi_nw13 : nwB wohi_ops.toArray 13 = true := by kernel_rfl
theorem wohi_nw17 : nwB wohi_ops.toArray 17 = true := by kernel_rfl
set_option maxRecDepth 100000 in
set_option maxHeartbeats 4000000 in
theorem wohi_obs (w0 : World) (A : Option Addr) (n c g : Nat) (xs : List Int) (k : Int) (hr : ReadsInt w0 .u8 A n xs) (hg : w0.cell? ⟨g, 0, none⟩ = some (.int .i64 k)) (hl : n ≤ 140737488355000) (h1 : 1 ≤ k) (h2 : (n : Int) < k) (Q : Exit → Act → World → Prop) (a0 : Act) (hi0 : a0.tmps.getD 0 undef = .slice A n c) (hi3 : a0.tmps.getD 3 undef = .pointer (some ⟨g, 0, none⟩)) (hi11 : a0.tmps.getD 11 undef = .int .i64 1) (hi13 : a0.tmps.getD 13 undef = .int .i64 1) (hi17 : a0.tmps.getD 17 undef = .int .i64 4) :
    Obs Try.prog wohi_ops.toArray Q w0.heap.size wohi_C (wohi_F w0 A n c g xs k) a0 w0 wohi_ops.toArray.toList 0 := by
  have nw0 := wohi_nw0
  have nw3 := wohi_nw3
  have nw11 := wohi_nw11
  have nw13 := wohi_nw13
  have nw17 := wohi_nw17
  refine ⟨?_, ?_, ?_, ?_, ?_, ?_, ?_, ?_, ?_, ?_, ?_, ?_, ?_, ?_, ?_, ?_, ?_, ?_, ?_, ?_, ?_, ?_, ?_, ?_, ?_, ?_, ?_, ?_, ?_, ?_, ?_, ?_, ?_, ?_, ?_, ?_, ?_, ?_, ?_, ?_, trivial⟩
  · refine ⟨stable_det _, ?_⟩
    intro a w O hk
    have e11 : a.tmps.getD 11 undef = .int .i64 1 := (hk.init 11 (initialB_of_nw nw11)).trans hi11
    exact ob_move rfl e11 (wanted_none rfl) rfl
  · refine ⟨stable_det _, ?_⟩
    intro a w O hk
    have e60 : a.tmps.getD 60 undef = .int .i64 1 := hk.fact 0 _ 60 rfl rfl rfl rfl
    exact ob_eqlInt true rfl e60 rfl (by simp) (wanted_none rfl) rfl
  · refine ⟨stable_det _, ?_⟩
    intro a w O hk
    have e61 : a.tmps.getD 61 undef = .bool true := hk.fact 1 _ 61 rfl rfl rfl rfl
    exact ob_move rfl e61 (wanted_none rfl) rfl
  · refine ⟨stable_det _, ?_⟩
    intro a w O hk
    have e13 : a.tmps.getD 13 undef = .int .i64 1 := (hk.init 13 (initialB_of_nw nw13)).trans hi13
    have e62 : a.tmps.getD 62 undef = .bool true := hk.fact 2 _ 62 rfl rfl rfl rfl
    exact ob_move rfl e13 (wanted_of rfl rfl rfl e62) rfl
  · refine ⟨stable_det _, ?_⟩
    intro a w O hk
    have e63 : a.tmps.getD 63 undef = .int .i64 1 := hk.fact 3 _ 63 rfl rfl rfl rfl
    have e62 : a.tmps.getD 62 undef = .bool true := hk.fact 2 _ 62 rfl rfl rfl rfl
    exact ob_eqlInt true rfl e63 rfl (by simp) (wanted_of rfl rfl rfl e62) rfl
  · refine ⟨stable_det _, ?_⟩
    intro a w O hk
    have e62 : a.tmps.getD 62 undef = .bool true := hk.fact 2 _ 62 rfl rfl rfl rfl
    have e64 : a.tmps.getD 64 undef = .bool true := hk.fact 4 _ 64 rfl rfl rfl rfl
    exact ob_pick rfl e62 e64 (wanted_none rfl) rfl
  · refine ⟨stable_det _, ?_⟩
    intro a w O hk
    have e65 : a.tmps.getD 65 undef = .bool true := hk.fact 5 _ 65 rfl rfl rfl rfl
    exact ob_move rfl e65 (wanted_none rfl) rfl
  · refine ⟨stable_det _, ?_⟩
    intro a w O hk
    have e17 : a.tmps.getD 17 undef = .int .i64 4 := (hk.init 17 (initialB_of_nw nw17)).trans hi17
    have e66 : a.tmps.getD 66 undef = .bool true := hk.fact 6 _ 66 rfl rfl rfl rfl
    exact ob_move rfl e17 (wanted_of rfl rfl rfl e66) rfl
  · refine ⟨stable_det _, ?_⟩
    intro a w O hk
    have e67 : a.tmps.getD 67 undef = .int .i64 4 := hk.fact 7 _ 67 rfl rfl rfl rfl
    have e66 : a.tmps.getD 66 undef = .bool true := hk.fact 6 _ 66 rfl rfl rfl rfl
    exact ob_eqlInt false rfl e67 rfl (by decide) (wanted_of rfl rfl rfl e66) rfl
  · refine ⟨stable_det _, ?_⟩
    intro a w O hk
    have e3 : a.tmps.getD 3 undef = .pointer (some ⟨g, 0, none⟩) := (hk.init 3 (initialB_of_nw nw3)).trans hi3
    have e66 : a.tmps.getD 66 undef = .bool true := hk.fact 6 _ 66 rfl rfl rfl rfl
    have hc := (hk.world.cell (p := ⟨g, 0, none⟩) (World.block_lt_of_cell? w0 _ hg)).trans hg
    exact ob_loadInt rfl e3 Try.underlying3 hc (wanted_of rfl rfl rfl e66) rfl
  · refine ⟨stable_det _, ?_⟩
    intro a w O hk
    have e69 : a.tmps.getD 69 undef = .int .i64 k := hk.fact 9 _ 69 rfl rfl rfl rfl
    have e66 : a.tmps.getD 66 undef = .bool true := hk.fact 6 _ 66 rfl rfl rfl rfl
    exact ob_bin rfl e69 rfl (run_geqB _ _ _ (by simp; omega)) (by decide) (wanted_of rfl rfl rfl e66) rfl
  · refine ⟨stable_det _, ?_⟩
    intro a w O hk
    have e70 : a.tmps.getD 70 undef = .bool true := hk.fact 10 _ 70 rfl rfl rfl rfl
    have e66 : a.tmps.getD 66 undef = .bool true := hk.fact 6 _ 66 rfl rfl rfl rfl
    exact ob_move rfl e70 (wanted_of rfl rfl rfl e66) rfl
  · refine ⟨stable_det _, ?_⟩
    intro a w O hk
    have e3 : a.tmps.getD 3 undef = .pointer (some ⟨g, 0, none⟩) := (hk.init 3 (initialB_of_nw nw3)).trans hi3
    have e71 : a.tmps.getD 71 undef = .bool true := hk.fact 11 _ 71 rfl rfl rfl rfl
    have hc := (hk.world.cell (p := ⟨g, 0, none⟩) (World.block_lt_of_cell? w0 _ hg)).trans hg
    exact ob_loadInt rfl e3 Try.underlying3 hc (wanted_of rfl rfl rfl e71) rfl
  · refine ⟨stable_det _, ?_⟩
    intro a w O hk
    have e0 : a.tmps.getD 0 undef = .slice A n c := (hk.init 0 (initialB_of_nw nw0)).trans hi0
    have e71 : a.tmps.getD 71 undef = .bool true := hk.fact 11 _ 71 rfl rfl rfl rfl
    exact ob_move rfl e0 (wanted_of rfl rfl rfl e71) rfl
  · refine ⟨stable_det _, ?_⟩
    intro a w O hk
    have e73 : a.tmps.getD 73 undef = .slice A n c := hk.fact 13 _ 73 rfl rfl rfl rfl
    have e71 : a.tmps.getD 71 undef = .bool true := hk.fact 11 _ 71 rfl rfl rfl rfl
    exact ob_len rfl e73 Try.underlying22 (wanted_of rfl rfl rfl e71) rfl
  · refine ⟨stable_det _, ?_⟩
    intro a w O hk
    have e72 : a.tmps.getD 72 undef = .int .i64 k := hk.fact 12 _ 72 rfl rfl rfl rfl
    have e74 : a.tmps.getD 74 undef = .int .i64 (n : Int) := hk.fact 14 _ 74 rfl rfl rfl rfl
    have e71 : a.tmps.getD 71 undef = .bool true := hk.fact 11 _ 71 rfl rfl rfl rfl
    exact ob_bin rfl e72 e74 (run_leqB _ _ _ (by simp; omega)) (by decide) (wanted_of rfl rfl rfl e71) rfl
  · refine ⟨stable_det _, ?_⟩
    intro a w O hk
    have e71 : a.tmps.getD 71 undef = .bool true := hk.fact 11 _ 71 rfl rfl rfl rfl
    have e75 : a.tmps.getD 75 undef = .bool false := hk.fact 15 _ 75 rfl rfl rfl rfl
    have e66 : a.tmps.getD 66 undef = .bool true := hk.fact 6 _ 66 rfl rfl rfl rfl
    exact ob_pick rfl e71 e75 (wanted_of rfl rfl rfl e66) rfl
  · refine ⟨stable_det _, ?_⟩
    intro a w O hk
    have e68 : a.tmps.getD 68 undef = .bool false := hk.fact 8 _ 68 rfl rfl rfl rfl
    have e76 : a.tmps.getD 76 undef = .bool false := hk.fact 16 _ 76 rfl rfl rfl rfl
    have e66 : a.tmps.getD 66 undef = .bool true := hk.fact 6 _ 66 rfl rfl rfl rfl
    exact ob_eqlBool true rfl e68 e76 Try.underlying4 (by decide) (wanted_of rfl rfl rfl e66) rfl
  · refine ⟨stable_det _, ?_⟩
    intro a w O hk
    have e66 : a.tmps.getD 66 undef = .bool true := hk.fact 6 _ 66 rfl rfl rfl rfl
    have e77 : a.tmps.getD 77 undef = .bool true := hk.fact 17 _ 77 rfl rfl rfl rfl
    exact ob_pick rfl e66 e77 (wanted_none rfl) rfl
  · refine ⟨stable_det _, ?_⟩
    intro a w O hk
    have e78 : a.tmps.getD 78 undef = .bool true := hk.fact 18 _ 78 rfl rfl rfl rfl
    exact ob_move rfl e78 (wanted_none rfl) rfl
  · refine ⟨stable_det _, ?_⟩
    intro a w O hk
    have e17 : a.tmps.getD 17 undef = .int .i64 4 := (hk.init 17 (initialB_of_nw nw17)).trans hi17
    have e79 : a.tmps.getD 79 undef = .bool true := hk.fact 19 _ 79 rfl rfl rfl rfl
    exact ob_move rfl e17 (wanted_of rfl rfl rfl e79) rfl
  · refine ⟨stable_det _, ?_⟩
    intro a w O hk
    have e80 : a.tmps.getD 80 undef = .int .i64 4 := hk.fact 20 _ 80 rfl rfl rfl rfl
    have e79 : a.tmps.getD 79 undef = .bool true := hk.fact 19 _ 79 rfl rfl rfl rfl
    exact ob_eqlInt false rfl e80 rfl (by decide) (wanted_of rfl rfl rfl e79) rfl
  · refine ⟨stable_det _, ?_⟩
    intro a w O hk
    have e81 : a.tmps.getD 81 undef = .bool false := hk.fact 21 _ 81 rfl rfl rfl rfl
    have e79 : a.tmps.getD 79 undef = .bool true := hk.fact 19 _ 79 rfl rfl rfl rfl
    exact ob_move rfl e81 (wanted_of rfl rfl rfl e79) rfl
  · refine ⟨stable_det _, ?_⟩
    intro a w O hk
    have e17 : a.tmps.getD 17 undef = .int .i64 4 := (hk.init 17 (initialB_of_nw nw17)).trans hi17
    have e82 : a.tmps.getD 82 undef = .bool false := hk.fact 22 _ 82 rfl rfl rfl rfl
    exact ob_move rfl e17 (wanted_of rfl rfl rfl e82) rfl
  · refine ⟨stable_det _, ?_⟩
    intro a w O hk
    have e83 : a.tmps.getD 83 undef = .int .i64 4 := hk.fact 23 _ 83 rfl rfl rfl rfl
    have e82 : a.tmps.getD 82 undef = .bool false := hk.fact 22 _ 82 rfl rfl rfl rfl
    exact ob_eqlInt true rfl e83 rfl (by decide) (wanted_of rfl rfl rfl e82) rfl
  · refine ⟨stable_det _, ?_⟩
    intro a w O hk
    have e82 : a.tmps.getD 82 undef = .bool false := hk.fact 22 _ 82 rfl rfl rfl rfl
    have e84 : a.tmps.getD 84 undef = .bool true := hk.fact 24 _ 84 rfl rfl rfl rfl
    have e79 : a.tmps.getD 79 undef = .bool true := hk.fact 19 _ 79 rfl rfl rfl rfl
    exact ob_pick rfl e82 e84 (wanted_of rfl rfl rfl e79) rfl
  · refine ⟨stable_det _, ?_⟩
    intro a w O hk
    have e79 : a.tmps.getD 79 undef = .bool true := hk.fact 19 _ 79 rfl rfl rfl rfl
    have e85 : a.tmps.getD 85 undef = .bool true := hk.fact 25 _ 85 rfl rfl rfl rfl
    exact ob_pick rfl e79 e85 (wanted_none rfl) rfl
  · refine ⟨stable_det _, ?_⟩
    intro a w O hk
    have e86 : a.tmps.getD 86 undef = .bool true := hk.fact 26 _ 86 rfl rfl rfl rfl
    exact ob_move rfl e86 (wanted_none rfl) rfl
  · refine ⟨stable_det _, ?_⟩
    intro a w O hk
    have e0 : a.tmps.getD 0 undef = .slice A n c := (hk.init 0 (initialB_of_nw nw0)).trans hi0
    have e87 : a.tmps.getD 87 undef = .bool true := hk.fact 27 _ 87 rfl rfl rfl rfl
    exact ob_move rfl e0 (wanted_of rfl rfl rfl e87) rfl
  · refine ⟨(fun _ _ _ _ _ _ _ => trivial), ?_⟩
    intro a w O hk
    have e87 : a.tmps.getD 87 undef = .bool true := hk.fact 27 _ 87 rfl rfl rfl rfl
    exact ob_new (fun _ => False) (wanted_of rfl rfl rfl e87) (by simp [execOp, go_sem]; exact ⟨rfl, rfl⟩) ((Below.refl _ _).alloc (Nat.le_refl _) _) trivial (fun _ h => h.elim)
  · refine ⟨stable_own _ _ _ _, ?_⟩
    intro a w O hk
    have e88 : a.tmps.getD 88 undef = .slice A n c := hk.fact 28 _ 88 rfl rfl rfl rfl
    have f89 := hk.fact 29 _ 89 rfl rfl rfl rfl
    have g89 := hk.owns 29 rfl rfl
    have e87 : a.tmps.getD 87 undef = .bool true := hk.fact 27 _ 87 rfl rfl rfl rfl
    refine ob_callFresh #[.slice A n c, a.tmps.getD 89 undef, .nilFunc] Try.func33 rfl rfl rfl (by show [a.tmps.getD 88 undef, a.tmps.getD 89 undef, Value.nilFunc] = [_, _, _]; rw [e88]) (wanted_of rfl rfl rfl e87) hk.base ?_
    exact putNil_calls A n c xs _ w (hr.below hk.world) hl
  · refine ⟨stable_det _, ?_⟩
    intro a w O hk
    have f90 := hk.fact 30 _ 90 rfl rfl rfl rfl
    have g90 := hk.owns 30 rfl rfl
    have e87 : a.tmps.getD 87 undef = .bool true := hk.fact 27 _ 87 rfl rfl rfl rfl
    exact ob_convert rfl rfl (own_string Try.underlying22 Try.underlying5 Try.underlying9 f90.1) (wanted_of rfl rfl rfl e87) rfl
  · refine ⟨stable_det _, ?_⟩
    intro a w O hk
    have e0 : a.tmps.getD 0 undef = .slice A n c := (hk.init 0 (initialB_of_nw nw0)).trans hi0
    have e87 : a.tmps.getD 87 undef = .bool true := hk.fact 27 _ 87 rfl rfl rfl rfl
    exact ob_move rfl e0 (wanted_of rfl rfl rfl e87) rfl
  · refine ⟨stable_det _, ?_⟩
    intro a w O hk
    have e92 : a.tmps.getD 92 undef = .slice A n c := hk.fact 32 _ 92 rfl rfl rfl rfl
    have e87 : a.tmps.getD 87 undef = .bool true := hk.fact 27 _ 87 rfl rfl rfl rfl
    exact ob_convert rfl e92 (string_of_reads Try.underlying22 Try.underlying5 Try.underlying9 (hr.below hk.world)) (wanted_of rfl rfl rfl e87) rfl
  · refine ⟨stable_det _, ?_⟩
    intro a w O hk
    have e91 : a.tmps.getD 91 undef = .string (strOfNums xs) := hk.fact 31 _ 91 rfl rfl rfl rfl
    have e93 : a.tmps.getD 93 undef = .string (strOfNums xs) := hk.fact 33 _ 93 rfl rfl rfl rfl
    have e87 : a.tmps.getD 87 undef = .bool true := hk.fact 27 _ 87 rfl rfl rfl rfl
    exact ob_eqlStr rfl e91 e93 rfl (wanted_of rfl rfl rfl e87) rfl
  · refine ⟨stable_det _, ?_⟩
    intro a w O hk
    have e87 : a.tmps.getD 87 undef = .bool true := hk.fact 27 _ 87 rfl rfl rfl rfl
    have e94 : a.tmps.getD 94 undef = .bool true := hk.fact 34 _ 94 rfl rfl rfl rfl
    exact ob_pick rfl e87 e94 (wanted_none rfl) rfl
  · refine ⟨stable_det _, ?_⟩
    intro a w O hk
    have e95 : a.tmps.getD 95 undef = .bool true := hk.fact 35 _ 95 rfl rfl rfl rfl
    exact ob_move rfl e95 (wanted_none rfl) rfl
  · refine ⟨stable_det _, ?_⟩
    intro a w O hk
    have e96 : a.tmps.getD 96 undef = .bool true := hk.fact 36 _ 96 rfl rfl rfl rfl
    refine ob_call #[] Try.func18 rfl rfl rfl rfl (wanted_of rfl rfl rfl e96) ((awake_calls w).mono ?_)
    rintro e w' ⟨rfl, hb⟩
    exact ⟨_, fun _ => False, rfl, rfl, Chg.of_below hb, fun _ h => h.elim⟩
  · refine ⟨stable_det _, ?_⟩
    intro a w O hk
    have e96 : a.tmps.getD 96 undef = .bool true := hk.fact 36 _ 96 rfl rfl rfl rfl
    have e97 : a.tmps.getD 97 undef = .bool true := hk.fact 37 _ 97 rfl rfl rfl rfl
    exact ob_pick rfl e96 e97 (wanted_none rfl) rfl
  · refine ⟨stable_det _, ?_⟩
    intro a w O hk
    have e98 : a.tmps.getD 98 undef = .bool true := hk.fact 38 _ 98 rfl rfl rfl rfl
    exact ob_assign rfl e98 (wanted_none rfl) rfl
set_option maxRecDepth 100000 in
set_option maxHeartbeats 4000000 in
theorem wohi_region {Q : Exit → Act → World → Prop} {id : Nat} (w0 : World) (A : Option Addr) (n c g : Nat) (xs : List Int) (k : Int) {s1 s2 s4 s5 s6 s7 s8 s9 s10 s12 s14 s15 s16 s18 s19 s20 s21 s22 s23 s24 s25 s26 s27 s28 s29 s30 s31 s32 s33 s34 s35 s36 s37 s38 s39 s40 s41 s42 s43 s44 s45 s46 s47 s48 s49 s50 s51 s52 s53 s54 s55 s56 s57 s58 s59 s60 s61 s62 s63 s64 s65 s66 s67 s68 s69 s70 s71 s72 s73 s74 s75 s76 s77 s78 s79 s80 s81 s82 s83 s84 s85 s86 s87 s88 s89 s90 s91 s92 s93 s94 s95 s96 s97 s98 : Value} (hr : ReadsInt w0 .u8 A n xs) (hg : w0.cell? ⟨g, 0, none⟩ = some (.int .i64 k)) (hl : n ≤ 140737488355000) (h1 : 1 ≤ k) (h2 : (n : Int) < k)
    (hend : ∀ (w' : World) (u89 : Value) (O89 : Nat → Prop) (u90 : Value) (O90 : Nat → Prop), Below w0.heap.size w0 w' → (True) → (∀ k, O89 k → w0.heap.size ≤ k ∧ k < w'.heap.size) → (OwnO w0.heap.size 5 1 xs.length (nums .u8 xs) u90 w' O90) → (∀ k, O90 k → w0.heap.size ≤ k ∧ k < w'.heap.size) → Q .normal { tmps := ((.slice A n c : Value) :: s1 :: s2 :: (.pointer (some ⟨g, 0, none⟩) : Value) :: (.bool true : Value) :: s5 :: s6 :: s7 :: s8 :: s9 :: s10 :: (.int .i64 1 : Value) :: s12 :: (.int .i64 1 : Value) :: s14 :: s15 :: s16 :: (.int .i64 4 : Value) :: s18 :: s19 :: s20 :: s21 :: s22 :: s23 :: s24 :: s25 :: s26 :: s27 :: s28 :: s29 :: s30 :: s31 :: s32 :: s33 :: s34 :: s35 :: s36 :: s37 :: s38 :: s39 :: s40 :: s41 :: s42 :: s43 :: s44 :: s45 :: s46 :: s47 :: s48 :: s49 :: s50 :: s51 :: s52 :: s53 :: s54 :: s55 :: s56 :: s57 :: s58 :: s59 :: (.int .i64 1 : Value) :: (.bool true : Value) :: (.bool true : Value) :: (.int .i64 1 : Value) :: (.bool true : Value) :: (.bool true : Value) :: (.bool true : Value) :: (.int .i64 4 : Value) :: (.bool false : Value) :: (.int .i64 k : Value) :: (.bool true : Value) :: (.bool true : Value) :: (.int .i64 k : Value) :: (.slice A n c : Value) :: (.int .i64 (n : Int) : Value) :: (.bool false : Value) :: (.bool false : Value) :: (.bool true : Value) :: (.bool true : Value) :: (.bool true : Value) :: (.int .i64 4 : Value) :: (.bool false : Value) :: (.bool false : Value) :: (.int .i64 4 : Value) :: (.bool true : Value) :: (.bool true : Value) :: (.bool true : Value) :: (.bool true : Value) :: (.slice A n c : Value) :: u89 :: u90 :: (.string (strOfNums xs) : Value) :: (.slice A n c : Value) :: (.string (strOfNums xs) : Value) :: (.bool true : Value) :: (.bool true : Value) :: (.bool true : Value) :: (.bool true : Value) :: (.bool true : Value) :: ([] : List Value)).toArray, defers := [] } w') :
    (Code.region id wohi_ops.toArray true).wp Try.prog Q { tmps := ((.slice A n c : Value) :: s1 :: s2 :: (.pointer (some ⟨g, 0, none⟩) : Value) :: s4 :: s5 :: s6 :: s7 :: s8 :: s9 :: s10 :: (.int .i64 1 : Value) :: s12 :: (.int .i64 1 : Value) :: s14 :: s15 :: s16 :: (.int .i64 4 : Value) :: s18 :: s19 :: s20 :: s21 :: s22 :: s23 :: s24 :: s25 :: s26 :: s27 :: s28 :: s29 :: s30 :: s31 :: s32 :: s33 :: s34 :: s35 :: s36 :: s37 :: s38 :: s39 :: s40 :: s41 :: s42 :: s43 :: s44 :: s45 :: s46 :: s47 :: s48 :: s49 :: s50 :: s51 :: s52 :: s53 :: s54 :: s55 :: s56 :: s57 :: s58 :: s59 :: s60 :: s61 :: s62 :: s63 :: s64 :: s65 :: s66 :: s67 :: s68 :: s69 :: s70 :: s71 :: s72 :: s73 :: s74 :: s75 :: s76 :: s77 :: s78 :: s79 :: s80 :: s81 :: s82 :: s83 :: s84 :: s85 :: s86 :: s87 :: s88 :: s89 :: s90 :: s91 :: s92 :: s93 :: s94 :: s95 :: s96 :: s97 :: s98 :: ([] : List Value)).toArray, defers := [] } w0 := by
  refine wp_region_inv (by kernel_rfl) (w0.heap.size) wohi_C (wohi_F w0 A n c g xs k) (Nat.le_refl _) (by rfl) (by kernel_rfl) (wohi_obs w0.drew A n c g xs k hr hg hl h1 h2 _ _ rfl rfl rfl rfl rfl) ?_
  intro a w' O hd hs hb hf hsame
  have x0 : a.tmps.getD 0 undef = .slice A n c := hsame 0 (nwB.spec (by kernel_rfl))
  have x1 : a.tmps.getD 1 undef = s1 := hsame 1 (nwB.spec (by kernel_rfl))
  have x2 : a.tmps.getD 2 undef = s2 := hsame 2 (nwB.spec (by kernel_rfl))
  have x3 : a.tmps.getD 3 undef = .pointer (some ⟨g, 0, none⟩) := hsame 3 (nwB.spec (by kernel_rfl))
  have x4 : a.tmps.getD 4 undef = .bool true := (hf 39 _ 4 rfl rfl (by decide)).1
  have x5 : a.tmps.getD 5 undef = s5 := hsame 5 (nwB.spec (by kernel_rfl))
  have x6 : a.tmps.getD 6 undef = s6 := hsame 6 (nwB.spec (by kernel_rfl))
  have x7 : a.tmps.getD 7 undef = s7 := hsame 7 (nwB.spec (by kernel_rfl))
  have x8 : a.tmps.getD 8 undef = s8 := hsame 8 (nwB.spec (by kernel_rfl))
  have x9 : a.tmps.getD 9 undef = s9 := hsame 9 (nwB.spec (by kernel_rfl))
  have x10 : a.tmps.getD 10 undef = s10 := hsame 10 (nwB.spec (by kernel_rfl))
  have x11 : a.tmps.getD 11 undef = .int .i64 1 := hsame 11 (nwB.spec (by kernel_rfl))
  have x12 : a.tmps.getD 12 undef = s12 := hsame 12 (nwB.spec (by kernel_rfl))
  have x13 : a.tmps.getD 13 undef = .int .i64 1 := hsame 13 (nwB.spec (by kernel_rfl))
  have x14 : a.tmps.getD 14 undef = s14 := hsame 14 (nwB.spec (by kernel_rfl))
  have x15 : a.tmps.getD 15 undef = s15 := hsame 15 (nwB.spec (by kernel_rfl))
  have x16 : a.tmps.getD 16 undef = s16 := hsame 16 (nwB.spec (by kernel_rfl))
  have x17 : a.tmps.getD 17 undef = .int .i64 4 := hsame 17 (nwB.spec (by kernel_rfl))
  have x18 : a.tmps.getD 18 undef = s18 := hsame 18 (nwB.spec (by kernel_rfl))
  have x19 : a.tmps.getD 19 undef = s19 := hsame 19 (nwB.spec (by kernel_rfl))
  have x20 : a.tmps.getD 20 undef = s20 := hsame 20 (nwB.spec (by kernel_rfl))
  have x21 : a.tmps.getD 21 undef = s21 := hsame 21 (nwB.spec (by kernel_rfl))
  have x22 : a.tmps.getD 22 undef = s22 := hsame 22 (nwB.spec (by kernel_rfl))
  have x23 : a.tmps.getD 23 undef = s23 := hsame 23 (nwB.spec (by kernel_rfl))
  have x24 : a.tmps.getD 24 undef = s24 := hsame 24 (nwB.spec (by kernel_rfl))
  have x25 : a.tmps.getD 25 undef = s25 := hsame 25 (nwB.spec (by kernel_rfl))
  have x26 : a.tmps.getD 26 undef = s26 := hsame 26 (nwB.spec (by kernel_rfl))
  have x27 : a.tmps.getD 27 undef = s27 := hsame 27 (nwB.spec (by kernel_rfl))
  have x28 : a.tmps.getD 28 undef = s28 := hsame 28 (nwB.spec (by kernel_rfl))
  have x29 : a.tmps.getD 29 undef = s29 := hsame 29 (nwB.spec (by kernel_rfl))
  have x30 : a.tmps.getD 30 undef = s30 := hsame 30 (nwB.spec (by kernel_rfl))
  have x31 : a.tmps.getD 31 undef = s31 := hsame 31 (nwB.spec (by kernel_rfl))
  have x32 : a.tmps.getD 32 undef = s32 := hsame 32 (nwB.spec (by kernel_rfl))
  have x33 : a.tmps.getD 33 undef = s33 := hsame 33 (nwB.spec (by kernel_rfl))
  have x34 : a.tmps.getD 34 undef = s34 := hsame 34 (nwB.spec (by kernel_rfl))
  have x35 : a.tmps.getD 35 undef = s35 := hsame 35 (nwB.spec (by kernel_rfl))
  have x36 : a.tmps.getD 36 undef = s36 := hsame 36 (nwB.spec (by kernel_rfl))
  have x37 : a.tmps.getD 37 undef = s37 := hsame 37 (nwB.spec (by kernel_rfl))
  have x38 : a.tmps.getD 38 undef = s38 := hsame 38 (nwB.spec (by kernel_rfl))
  have x39 : a.tmps.getD 39 undef = s39 := hsame 39 (nwB.spec (by kernel_rfl))
  have x40 : a.tmps.getD 40 undef = s40 := hsame 40 (nwB.spec (by kernel_rfl))
  have x41 : a.tmps.getD 41 undef = s41 := hsame 41 (nwB.spec (by kernel_rfl))
  have x42 : a.tmps.getD 42 undef = s42 := hsame 42 (nwB.spec (by kernel_rfl))
  have x43 : a.tmps.getD 43 undef = s43 := hsame 43 (nwB.spec (by kernel_rfl))
  have x44 : a.tmps.getD 44 undef = s44 := hsame 44 (nwB.spec (by kernel_rfl))
  have x45 : a.tmps.getD 45 undef = s45 := hsame 45 (nwB.spec (by kernel_rfl))
  have x46 : a.tmps.getD 46 undef = s46 := hsame 46 (nwB.spec (by kernel_rfl))
  have x47 : a.tmps.getD 47 undef = s47 := hsame 47 (nwB.spec (by kernel_rfl))
  have x48 : a.tmps.getD 48 undef = s48 := hsame 48 (nwB.spec (by kernel_rfl))
  have x49 : a.tmps.getD 49 undef = s49 := hsame 49 (nwB.spec (by kernel_rfl))
  have x50 : a.tmps.getD 50 undef = s50 := hsame 50 (nwB.spec (by kernel_rfl))
  have x51 : a.tmps.getD 51 undef = s51 := hsame 51 (nwB.spec (by kernel_rfl))
  have x52 : a.tmps.getD 52 undef = s52 := hsame 52 (nwB.spec (by kernel_rfl))
  have x53 : a.tmps.getD 53 undef = s53 := hsame 53 (nwB.spec (by kernel_rfl))
  have x54 : a.tmps.getD 54 undef = s54 := hsame 54 (nwB.spec (by kernel_rfl))
  have x55 : a.tmps.getD 55 undef = s55 := hsame 55 (nwB.spec (by kernel_rfl))
  have x56 : a.tmps.getD 56 undef = s56 := hsame 56 (nwB.spec (by kernel_rfl))
  have x57 : a.tmps.getD 57 undef = s57 := hsame 57 (nwB.spec (by kernel_rfl))
  have x58 : a.tmps.getD 58 undef = s58 := hsame 58 (nwB.spec (by kernel_rfl))
  have x59 : a.tmps.getD 59 undef = s59 := hsame 59 (nwB.spec (by kernel_rfl))
  have x60 : a.tmps.getD 60 undef = .int .i64 1 := (hf 0 _ 60 rfl rfl (by decide)).1
  have x61 : a.tmps.getD 61 undef = .bool true := (hf 1 _ 61 rfl rfl (by decide)).1
  have x62 : a.tmps.getD 62 undef = .bool true := (hf 2 _ 62 rfl rfl (by decide)).1
  have x63 : a.tmps.getD 63 undef = .int .i64 1 := (hf 3 _ 63 rfl rfl (by decide)).1
  have x64 : a.tmps.getD 64 undef = .bool true := (hf 4 _ 64 rfl rfl (by decide)).1
  have x65 : a.tmps.getD 65 undef = .bool true := (hf 5 _ 65 rfl rfl (by decide)).1
  have x66 : a.tmps.getD 66 undef = .bool true := (hf 6 _ 66 rfl rfl (by decide)).1
  have x67 : a.tmps.getD 67 undef = .int .i64 4 := (hf 7 _ 67 rfl rfl (by decide)).1
  have x68 : a.tmps.getD 68 undef = .bool false := (hf 8 _ 68 rfl rfl (by decide)).1
  have x69 : a.tmps.getD 69 undef = .int .i64 k := (hf 9 _ 69 rfl rfl (by decide)).1
  have x70 : a.tmps.getD 70 undef = .bool true := (hf 10 _ 70 rfl rfl (by decide)).1
  have x71 : a.tmps.getD 71 undef = .bool true := (hf 11 _ 71 rfl rfl (by decide)).1
  have x72 : a.tmps.getD 72 undef = .int .i64 k := (hf 12 _ 72 rfl rfl (by decide)).1
  have x73 : a.tmps.getD 73 undef = .slice A n c := (hf 13 _ 73 rfl rfl (by decide)).1
  have x74 : a.tmps.getD 74 undef = .int .i64 (n : Int) := (hf 14 _ 74 rfl rfl (by decide)).1
  have x75 : a.tmps.getD 75 undef = .bool false := (hf 15 _ 75 rfl rfl (by decide)).1
  have x76 : a.tmps.getD 76 undef = .bool false := (hf 16 _ 76 rfl rfl (by decide)).1
  have x77 : a.tmps.getD 77 undef = .bool true := (hf 17 _ 77 rfl rfl (by decide)).1
  have x78 : a.tmps.getD 78 undef = .bool true := (hf 18 _ 78 rfl rfl (by decide)).1
  have x79 : a.tmps.getD 79 undef = .bool true := (hf 19 _ 79 rfl rfl (by decide)).1
  have x80 : a.tmps.getD 80 undef = .int .i64 4 := (hf 20 _ 80 rfl rfl (by decide)).1
  have x81 : a.tmps.getD 81 undef = .bool false := (hf 21 _ 81 rfl rfl (by decide)).1
  have x82 : a.tmps.getD 82 undef = .bool false := (hf 22 _ 82 rfl rfl (by decide)).1
  have x83 : a.tmps.getD 83 undef = .int .i64 4 := (hf 23 _ 83 rfl rfl (by decide)).1
  have x84 : a.tmps.getD 84 undef = .bool true := (hf 24 _ 84 rfl rfl (by decide)).1
  have x85 : a.tmps.getD 85 undef = .bool true := (hf 25 _ 85 rfl rfl (by decide)).1
  have x86 : a.tmps.getD 86 undef = .bool true := (hf 26 _ 86 rfl rfl (by decide)).1
  have x87 : a.tmps.getD 87 undef = .bool true := (hf 27 _ 87 rfl rfl (by decide)).1
  have x88 : a.tmps.getD 88 undef = .slice A n c := (hf 28 _ 88 rfl rfl (by decide)).1
  have x91 : a.tmps.getD 91 undef = .string (strOfNums xs) := (hf 31 _ 91 rfl rfl (by decide)).1
  have x92 : a.tmps.getD 92 undef = .slice A n c := (hf 32 _ 92 rfl rfl (by decide)).1
  have x93 : a.tmps.getD 93 undef = .string (strOfNums xs) := (hf 33 _ 93 rfl rfl (by decide)).1
  have x94 : a.tmps.getD 94 undef = .bool true := (hf 34 _ 94 rfl rfl (by decide)).1
  have x95 : a.tmps.getD 95 undef = .bool true := (hf 35 _ 95 rfl rfl (by decide)).1
  have x96 : a.tmps.getD 96 undef = .bool true := (hf 36 _ 96 rfl rfl (by decide)).1
  have x97 : a.tmps.getD 97 undef = .bool true := (hf 37 _ 97 rfl rfl (by decide)).1
  have x98 : a.tmps.getD 98 undef = .bool true := (hf 38 _ 98 rfl rfl (by decide)).1
  have hl : a.tmps = ((.slice A n c : Value) :: s1 :: s2 :: (.pointer (some ⟨g, 0, none⟩) : Value) :: (.bool true : Value) :: s5 :: s6 :: s7 :: s8 :: s9 :: s10 :: (.int .i64 1 : Value) :: s12 :: (.int .i64 1 : Value) :: s14 :: s15 :: s16 :: (.int .i64 4 : Value) :: s18 :: s19 :: s20 :: s21 :: s22 :: s23 :: s24 :: s25 :: s26 :: s27 :: s28 :: s29 :: s30 :: s31 :: s32 :: s33 :: s34 :: s35 :: s36 :: s37 :: s38 :: s39 :: s40 :: s41 :: s42 :: s43 :: s44 :: s45 :: s46 :: s47 :: s48 :: s49 :: s50 :: s51 :: s52 :: s53 :: s54 :: s55 :: s56 :: s57 :: s58 :: s59 :: (.int .i64 1 : Value) :: (.bool true : Value) :: (.bool true : Value) :: (.int .i64 1 : Value) :: (.bool true : Value) :: (.bool true : Value) :: (.bool true : Value) :: (.int .i64 4 : Value) :: (.bool false : Value) :: (.int .i64 k : Value) :: (.bool true : Value) :: (.bool true : Value) :: (.int .i64 k : Value) :: (.slice A n c : Value) :: (.int .i64 (n : Int) : Value) :: (.bool false : Value) :: (.bool false : Value) :: (.bool true : Value) :: (.bool true : Value) :: (.bool true : Value) :: (.int .i64 4 : Value) :: (.bool false : Value) :: (.bool false : Value) :: (.int .i64 4 : Value) :: (.bool true : Value) :: (.bool true : Value) :: (.bool true : Value) :: (.bool true : Value) :: (.slice A n c : Value) :: (a.tmps.getD 89 undef : Value) :: (a.tmps.getD 90 undef : Value) :: (.string (strOfNums xs) : Value) :: (.slice A n c : Value) :: (.string (strOfNums xs) : Value) :: (.bool true : Value) :: (.bool true : Value) :: (.bool true : Value) :: (.bool true : Value) :: (.bool true : Value) :: ([] : List Value)).toArray := by
    have h := lit a.tmps 99 hs
    have e : ((List.range 99).map (fun i => a.tmps.getD i undef)).toArray = ((a.tmps.getD 0 undef : Value) :: (a.tmps.getD 1 undef : Value) :: (a.tmps.getD 2 undef : Value) :: (a.tmps.getD 3 undef : Value) :: (a.tmps.getD 4 undef : Value) :: (a.tmps.getD 5 undef : Value) :: (a.tmps.getD 6 undef : Value) :: (a.tmps.getD 7 undef : Value) :: (a.tmps.getD 8 undef : Value) :: (a.tmps.getD 9 undef : Value) :: (a.tmps.getD 10 undef : Value) :: (a.tmps.getD 11 undef : Value) :: (a.tmps.getD 12 undef : Value) :: (a.tmps.getD 13 undef : Value) :: (a.tmps.getD 14 undef : Value) :: (a.tmps.getD 15 undef : Value) :: (a.tmps.getD 16 undef : Value) :: (a.tmps.getD 17 undef : Value) :: (a.tmps.getD 18 undef : Value) :: (a.tmps.getD 19 undef : Value) :: (a.tmps.getD 20 undef : Value) :: (a.tmps.getD 21 undef : Value) :: (a.tmps.getD 22 undef : Value) :: (a.tmps.getD 23 undef : Value) :: (a.tmps.getD 24 undef : Value) :: (a.tmps.getD 25 undef : Value) :: (a.tmps.getD 26 undef : Value) :: (a.tmps.getD 27 undef : Value) :: (a.tmps.getD 28 undef : Value) :: (a.tmps.getD 29 undef : Value) :: (a.tmps.getD 30 undef : Value) :: (a.tmps.getD 31 undef : Value) :: (a.tmps.getD 32 undef : Value) :: (a.tmps.getD 33 undef : Value) :: (a.tmps.getD 34 undef : Value) :: (a.tmps.getD 35 undef : Value) :: (a.tmps.getD 36 undef : Value) :: (a.tmps.getD 37 undef : Value) :: (a.tmps.getD 38 undef : Value) :: (a.tmps.getD 39 undef : Value) :: (a.tmps.getD 40 undef : Value) :: (a.tmps.getD 41 undef : Value) :: (a.tmps.getD 42 undef : Value) :: (a.tmps.getD 43 undef : Value) :: (a.tmps.getD 44 undef : Value) :: (a.tmps.getD 45 undef : Value) :: (a.tmps.getD 46 undef : Value) :: (a.tmps.getD 47 undef : Value) :: (a.tmps.getD 48 undef : Value) :: (a.tmps.getD 49 undef : Value) :: (a.tmps.getD 50 undef : Value) :: (a.tmps.getD 51 undef : Value) :: (a.tmps.getD 52 undef : Value) :: (a.tmps.getD 53 undef : Value) :: (a.tmps.getD 54 undef : Value) :: (a.tmps.getD 55 undef : Value) :: (a.tmps.getD 56 undef : Value) :: (a.tmps.getD 57 undef : Value) :: (a.tmps.getD 58 undef : Value) :: (a.tmps.getD 59 undef : Value) :: (a.tmps.getD 60 undef : Value) :: (a.tmps.getD 61 undef : Value) :: (a.tmps.getD 62 undef : Value) :: (a.tmps.getD 63 undef : Value) :: (a.tmps.getD 64 undef : Value) :: (a.tmps.getD 65 undef : Value) :: (a.tmps.getD 66 undef : Value) :: (a.tmps.getD 67 undef : Value) :: (a.tmps.getD 68 undef : Value) :: (a.tmps.getD 69 undef : Value) :: (a.tmps.getD 70 undef : Value) :: (a.tmps.getD 71 undef : Value) :: (a.tmps.getD 72 undef : Value) :: (a.tmps.getD 73 undef : Value) :: (a.tmps.getD 74 undef : Value) :: (a.tmps.getD 75 undef : Value) :: (a.tmps.getD 76 undef : Value) :: (a.tmps.getD 77 undef : Value) :: (a.tmps.getD 78 undef : Value) :: (a.tmps.getD 79 undef : Value) :: (a.tmps.getD 80 undef : Value) :: (a.tmps.getD 81 undef : Value) :: (a.tmps.getD 82 undef : Value) :: (a.tmps.getD 83 undef : Value) :: (a.tmps.getD 84 undef : Value) :: (a.tmps.getD 85 undef : Value) :: (a.tmps.getD 86 undef : Value) :: (a.tmps.getD 87 undef : Value) :: (a.tmps.getD 88 undef : Value) :: (a.tmps.getD 89 undef : Value) :: (a.tmps.getD 90 undef : Value) :: (a.tmps.getD 91 undef : Value) :: (a.tmps.getD 92 undef : Value) :: (a.tmps.getD 93 undef : Value) :: (a.tmps.getD 94 undef : Value) :: (a.tmps.getD 95 undef : Value) :: (a.tmps.getD 96 undef : Value) :: (a.tmps.getD 97 undef : Value) :: (a.tmps.getD 98 undef : Value) :: ([] : List Value)).toArray := rfl
    rw [e, x0, x1, x2, x3, x4, x5, x6, x7, x8, x9, x10, x11, x12, x13, x14, x15, x16, x17, x18, x19, x20, x21, x22, x23, x24, x25, x26, x27, x28, x29, x30, x31, x32, x33, x34, x35, x36, x37, x38, x39, x40, x41, x42, x43, x44, x45, x46, x47, x48, x49, x50, x51, x52, x53, x54, x55, x56, x57, x58, x59, x60, x61, x62, x63, x64, x65, x66, x67, x68, x69, x70, x71, x72, x73, x74, x75, x76, x77, x78, x79, x80, x81, x82, x83, x84, x85, x86, x87, x88, x91, x92, x93, x94, x95, x96, x97, x98] at h
    exact h
  obtain ⟨tmps, defers⟩ := a
  obtain rfl : defers = [] := hd
  have hl' : tmps = _ := hl
  rw [hl']
  exact hend w' _ (O 29) _ (O 30) ⟨hb.os, hb.tape, hb.output, hb.size, hb.block⟩ (hf 29 _ 89 rfl rfl (by decide)).1 (hf 29 _ 89 rfl rfl (by decide)).2 (hf 30 _ 90 rfl rfl (by decide)).1 (hf 30 _ 90 rfl rfl (by decide)).2

end Go.Proofs.Ytcgmfbefikpkbaa
