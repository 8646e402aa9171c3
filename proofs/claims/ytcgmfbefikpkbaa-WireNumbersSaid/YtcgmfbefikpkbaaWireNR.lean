/- Numbers: the region of the law's test, whichever order comes up. -/
import Derived.Test.YtcgmfbefikpkbaaWireA
import Derived.Test.YtcgmfbefikpkbaaWireR
namespace Go.Proofs.Ytcgmfbefikpkbaa
open Go.RowKit Go.Proofs.YtcgmfbefikpkbaaW.PrintWords Go.RegionInvYtcgmfbefikpkbaa
set_option linter.unusedVariables false

def wnok_ops : List Oper := [
  { dst := some 43, op := Go.Op.move (Go.Operand.tmp 7), type := 23, pos := "law.go:22", after := #[], guard := none },
  { dst := some 44, op := Go.Op.move (Go.Operand.tmp 10), type := 23, pos := "law.go:22", after := #[], guard := none },
  { dst := some 45, op := Go.Op.binOp Go.BinOp.eql 23 (Go.Operand.tmp 43) (Go.Operand.tmp 44) 23, type := 4, pos := "law.go:22", after := #[{ on := 0, ground := Go.Ground.data }, { on := 1, ground := Go.Ground.data }], guard := none },
  { dst := some 46, op := Go.Op.move (Go.Operand.tmp 45), type := 4, pos := "law.go:22", after := #[{ on := 2, ground := Go.Ground.data }], guard := none },
  { dst := some 47, op := Go.Op.move (Go.Operand.tmp 8), type := 3, pos := "law.go:22", after := #[{ on := 3, ground := Go.Ground.guard }], guard := some (3, true) },
  { dst := some 48, op := Go.Op.move (Go.Operand.tmp 11), type := 3, pos := "law.go:22", after := #[{ on := 3, ground := Go.Ground.guard }], guard := some (3, true) },
  { dst := some 49, op := Go.Op.binOp Go.BinOp.eql 3 (Go.Operand.tmp 47) (Go.Operand.tmp 48) 3, type := 4, pos := "law.go:22", after := #[{ on := 4, ground := Go.Ground.data }, { on := 5, ground := Go.Ground.data }, { on := 3, ground := Go.Ground.guard }], guard := some (3, true) },
  { dst := some 50, op := Go.Op.pick (Go.Operand.tmp 46) (Go.Operand.tmp 49) (Go.Operand.const (Go.Value.bool false)), type := 4, pos := "law.go:22", after := #[{ on := 3, ground := Go.Ground.data }, { on := 6, ground := Go.Ground.data }], guard := none },
  { dst := some 51, op := Go.Op.move (Go.Operand.tmp 50), type := 4, pos := "law.go:22", after := #[{ on := 7, ground := Go.Ground.data }, { on := 3, ground := Go.Ground.chain }], guard := none },
  { dst := some 52, op := Go.Op.move (Go.Operand.tmp 9), type := 24, pos := "law.go:22", after := #[{ on := 8, ground := Go.Ground.guard }], guard := some (8, true) },
  { dst := some 53, op := Go.Op.move (Go.Operand.tmp 12), type := 24, pos := "law.go:22", after := #[{ on := 8, ground := Go.Ground.guard }], guard := some (8, true) },
  { dst := some 54, op := Go.Op.binOp Go.BinOp.eql 24 (Go.Operand.tmp 52) (Go.Operand.tmp 53) 24, type := 4, pos := "law.go:22", after := #[{ on := 9, ground := Go.Ground.data }, { on := 10, ground := Go.Ground.data }, { on := 8, ground := Go.Ground.guard }], guard := some (8, true) },
  { dst := some 55, op := Go.Op.pick (Go.Operand.tmp 51) (Go.Operand.tmp 54) (Go.Operand.const (Go.Value.bool false)), type := 4, pos := "law.go:22", after := #[{ on := 8, ground := Go.Ground.data }, { on := 11, ground := Go.Ground.data }], guard := none },
  { dst := some 56, op := Go.Op.move (Go.Operand.tmp 55), type := 4, pos := "law.go:22", after := #[{ on := 12, ground := Go.Ground.data }, { on := 8, ground := Go.Ground.chain }], guard := none },
  { dst := some 57, op := Go.Op.move (Go.Operand.tmp 15), type := 24, pos := "law.go:22", after := #[{ on := 13, ground := Go.Ground.guard }], guard := some (13, true) },
  { dst := some 58, op := Go.Op.binOp Go.BinOp.neq 24 (Go.Operand.tmp 57) (Go.Operand.const (Go.Value.int Go.IntKind.i64 0)) 24, type := 4, pos := "law.go:22", after := #[{ on := 14, ground := Go.Ground.data }, { on := 13, ground := Go.Ground.guard }], guard := some (13, true) },
  { dst := some 59, op := Go.Op.move (Go.Operand.tmp 58), type := 4, pos := "law.go:22", after := #[{ on := 15, ground := Go.Ground.data }, { on := 13, ground := Go.Ground.chain }, { on := 13, ground := Go.Ground.guard }], guard := some (13, true) },
  { dst := some 60, op := Go.Op.move (Go.Operand.tmp 13), type := 2, pos := "law.go:22", after := #[{ on := 16, ground := Go.Ground.guard }], guard := some (16, false) },
  { dst := some 61, op := Go.Op.move (Go.Operand.tmp 16), type := 2, pos := "law.go:22", after := #[{ on := 16, ground := Go.Ground.guard }], guard := some (16, false) },
  { dst := some 62, op := Go.Op.binOp Go.BinOp.eql 2 (Go.Operand.tmp 60) (Go.Operand.tmp 61) 2, type := 4, pos := "law.go:22", after := #[{ on := 17, ground := Go.Ground.data }, { on := 18, ground := Go.Ground.data }, { on := 16, ground := Go.Ground.guard }], guard := some (16, false) },
  { dst := some 63, op := Go.Op.pick (Go.Operand.tmp 59) (Go.Operand.const (Go.Value.bool true)) (Go.Operand.tmp 62), type := 4, pos := "law.go:22", after := #[{ on := 16, ground := Go.Ground.data }, { on := 19, ground := Go.Ground.data }, { on := 13, ground := Go.Ground.guard }], guard := some (13, true) },
  { dst := some 64, op := Go.Op.pick (Go.Operand.tmp 56) (Go.Operand.tmp 63) (Go.Operand.const (Go.Value.bool false)), type := 4, pos := "law.go:22", after := #[{ on := 13, ground := Go.Ground.data }, { on := 20, ground := Go.Ground.data }], guard := none },
  { dst := some 65, op := Go.Op.move (Go.Operand.tmp 64), type := 4, pos := "law.go:22", after := #[{ on := 21, ground := Go.Ground.data }, { on := 16, ground := Go.Ground.chain }], guard := none },
  { dst := some 66, op := Go.Op.move (Go.Operand.tmp 15), type := 24, pos := "law.go:22", after := #[{ on := 22, ground := Go.Ground.guard }], guard := some (22, true) },
  { dst := some 67, op := Go.Op.binOp Go.BinOp.eql 24 (Go.Operand.tmp 66) (Go.Operand.const (Go.Value.int Go.IntKind.i64 0)) 24, type := 4, pos := "law.go:22", after := #[{ on := 23, ground := Go.Ground.data }, { on := 22, ground := Go.Ground.guard }], guard := some (22, true) },
  { dst := some 68, op := Go.Op.move (Go.Operand.tmp 67), type := 4, pos := "law.go:22", after := #[{ on := 24, ground := Go.Ground.data }, { on := 22, ground := Go.Ground.chain }, { on := 22, ground := Go.Ground.guard }], guard := some (22, true) },
  { dst := some 69, op := Go.Op.move (Go.Operand.tmp 13), type := 2, pos := "law.go:22", after := #[{ on := 25, ground := Go.Ground.guard }], guard := some (25, false) },
  { dst := some 70, op := Go.Op.binOp Go.BinOp.eql 2 (Go.Operand.tmp 69) (Go.Operand.const (Go.Value.int Go.IntKind.i64 0)) 2, type := 4, pos := "law.go:22", after := #[{ on := 26, ground := Go.Ground.data }, { on := 25, ground := Go.Ground.guard }], guard := some (25, false) },
  { dst := some 71, op := Go.Op.pick (Go.Operand.tmp 68) (Go.Operand.const (Go.Value.bool true)) (Go.Operand.tmp 70), type := 4, pos := "law.go:22", after := #[{ on := 25, ground := Go.Ground.data }, { on := 27, ground := Go.Ground.data }, { on := 22, ground := Go.Ground.guard }], guard := some (22, true) },
  { dst := some 72, op := Go.Op.pick (Go.Operand.tmp 65) (Go.Operand.tmp 71) (Go.Operand.const (Go.Value.bool false)), type := 4, pos := "law.go:22", after := #[{ on := 22, ground := Go.Ground.data }, { on := 28, ground := Go.Ground.data }], guard := none },
  { dst := some 73, op := Go.Op.move (Go.Operand.tmp 72), type := 4, pos := "law.go:22", after := #[{ on := 29, ground := Go.Ground.data }, { on := 25, ground := Go.Ground.chain }], guard := none },
  { dst := some 74, op := Go.Op.move (Go.Operand.tmp 14), type := 3, pos := "law.go:22", after := #[{ on := 30, ground := Go.Ground.guard }], guard := some (30, true) },
  { dst := some 75, op := Go.Op.move (Go.Operand.tmp 17), type := 3, pos := "law.go:22", after := #[{ on := 30, ground := Go.Ground.guard }], guard := some (30, true) },
  { dst := some 76, op := Go.Op.binOp Go.BinOp.eql 3 (Go.Operand.tmp 74) (Go.Operand.tmp 75) 3, type := 4, pos := "law.go:22", after := #[{ on := 31, ground := Go.Ground.data }, { on := 32, ground := Go.Ground.data }, { on := 30, ground := Go.Ground.guard }], guard := some (30, true) },
  { dst := some 77, op := Go.Op.pick (Go.Operand.tmp 73) (Go.Operand.tmp 76) (Go.Operand.const (Go.Value.bool false)), type := 4, pos := "law.go:22", after := #[{ on := 30, ground := Go.Ground.data }, { on := 33, ground := Go.Ground.data }], guard := none },
  { dst := some 78, op := Go.Op.move (Go.Operand.tmp 77), type := 4, pos := "law.go:22", after := #[{ on := 34, ground := Go.Ground.data }, { on := 30, ground := Go.Ground.chain }], guard := none },
  { dst := some 79, op := Go.Op.move (Go.Operand.tmp 15), type := 24, pos := "law.go:22", after := #[{ on := 35, ground := Go.Ground.guard }], guard := some (35, true) },
  { dst := some 80, op := Go.Op.move (Go.Operand.tmp 18), type := 24, pos := "law.go:22", after := #[{ on := 35, ground := Go.Ground.guard }], guard := some (35, true) },
  { dst := some 81, op := Go.Op.binOp Go.BinOp.eql 24 (Go.Operand.tmp 79) (Go.Operand.tmp 80) 24, type := 4, pos := "law.go:22", after := #[{ on := 36, ground := Go.Ground.data }, { on := 37, ground := Go.Ground.data }, { on := 35, ground := Go.Ground.guard }], guard := some (35, true) },
  { dst := some 82, op := Go.Op.pick (Go.Operand.tmp 78) (Go.Operand.tmp 81) (Go.Operand.const (Go.Value.bool false)), type := 4, pos := "law.go:22", after := #[{ on := 35, ground := Go.Ground.data }, { on := 38, ground := Go.Ground.data }], guard := none },
  { dst := some 83, op := Go.Op.move (Go.Operand.tmp 82), type := 4, pos := "law.go:22", after := #[{ on := 39, ground := Go.Ground.data }, { on := 35, ground := Go.Ground.chain }], guard := none },
  { dst := some 84, op := Go.Op.move (Go.Operand.tmp 0), type := 22, pos := "law.go:22", after := #[{ on := 40, ground := Go.Ground.guard }], guard := some (40, true) },
  { dst := some 85, op := Go.Op.move (Go.Operand.tmp 1), type := 23, pos := "law.go:22", after := #[{ on := 40, ground := Go.Ground.guard }], guard := some (40, true) },
  { dst := some 86, op := Go.Op.call { callee := Go.Callee.value (Go.Operand.func 14), args := #[Go.Operand.tmp 84, Go.Operand.tmp 85], argTypes := #[22, 23] }, type := 22, pos := "law.go:22", after := #[{ on := 41, ground := Go.Ground.data }, { on := 42, ground := Go.Ground.data }, { on := 40, ground := Go.Ground.chain }, { on := 40, ground := Go.Ground.guard }], guard := some (40, true) },
  { dst := some 87, op := Go.Op.convert 22 9 (Go.Operand.tmp 86), type := 9, pos := "law.go:22", after := #[{ on := 43, ground := Go.Ground.data }, { on := 40, ground := Go.Ground.guard }], guard := some (40, true) },
  { dst := some 88, op := Go.Op.buildSlice 22 0 #[], type := 22, pos := "law.go:22", after := #[{ on := 40, ground := Go.Ground.guard }], guard := some (40, true) },
  { dst := some 89, op := Go.Op.move (Go.Operand.tmp 0), type := 22, pos := "law.go:22", after := #[{ on := 40, ground := Go.Ground.guard }], guard := some (40, true) },
  { dst := some 90, op := Go.Op.call { callee := Go.Callee.builtin Go.Builtin.append, args := #[Go.Operand.tmp 88, Go.Operand.tmp 89], argTypes := #[22, 22] }, type := 22, pos := "law.go:22", after := #[{ on := 45, ground := Go.Ground.data }, { on := 46, ground := Go.Ground.data }, { on := 43, ground := Go.Ground.chain }, { on := 40, ground := Go.Ground.guard }], guard := some (40, true) },
  { dst := some 91, op := Go.Op.move (Go.Operand.tmp 1), type := 23, pos := "law.go:22", after := #[{ on := 40, ground := Go.Ground.guard }], guard := some (40, true) },
  { dst := some 92, op := Go.Op.call { callee := Go.Callee.value (Go.Operand.func 15), args := #[Go.Operand.tmp 90, Go.Operand.tmp 91], argTypes := #[22, 23] }, type := 22, pos := "law.go:22", after := #[{ on := 47, ground := Go.Ground.data }, { on := 48, ground := Go.Ground.data }, { on := 47, ground := Go.Ground.chain }, { on := 40, ground := Go.Ground.guard }], guard := some (40, true) },
  { dst := some 93, op := Go.Op.convert 22 9 (Go.Operand.tmp 92), type := 9, pos := "law.go:22", after := #[{ on := 49, ground := Go.Ground.data }, { on := 40, ground := Go.Ground.guard }], guard := some (40, true) },
  { dst := some 94, op := Go.Op.binOp Go.BinOp.eql 9 (Go.Operand.tmp 87) (Go.Operand.tmp 93) 9, type := 4, pos := "law.go:22", after := #[{ on := 44, ground := Go.Ground.data }, { on := 50, ground := Go.Ground.data }, { on := 40, ground := Go.Ground.guard }], guard := some (40, true) },
  { dst := some 95, op := Go.Op.pick (Go.Operand.tmp 83) (Go.Operand.tmp 94) (Go.Operand.const (Go.Value.bool false)), type := 4, pos := "law.go:22", after := #[{ on := 40, ground := Go.Ground.data }, { on := 51, ground := Go.Ground.data }], guard := none },
  { dst := some 96, op := Go.Op.move (Go.Operand.tmp 95), type := 4, pos := "law.go:22", after := #[{ on := 52, ground := Go.Ground.data }, { on := 49, ground := Go.Ground.chain }], guard := none },
  { dst := some 97, op := Go.Op.move (Go.Operand.tmp 0), type := 22, pos := "law.go:22", after := #[{ on := 53, ground := Go.Ground.guard }], guard := some (53, true) },
  { dst := some 98, op := Go.Op.move (Go.Operand.tmp 2), type := 2, pos := "law.go:22", after := #[{ on := 53, ground := Go.Ground.guard }], guard := some (53, true) },
  { dst := some 99, op := Go.Op.call { callee := Go.Callee.value (Go.Operand.func 16), args := #[Go.Operand.tmp 97, Go.Operand.tmp 98], argTypes := #[22, 2] }, type := 22, pos := "law.go:22", after := #[{ on := 54, ground := Go.Ground.data }, { on := 55, ground := Go.Ground.data }, { on := 53, ground := Go.Ground.chain }, { on := 53, ground := Go.Ground.guard }], guard := some (53, true) },
  { dst := some 100, op := Go.Op.convert 22 9 (Go.Operand.tmp 99), type := 9, pos := "law.go:22", after := #[{ on := 56, ground := Go.Ground.data }, { on := 53, ground := Go.Ground.guard }], guard := some (53, true) },
  { dst := some 101, op := Go.Op.buildSlice 22 0 #[], type := 22, pos := "law.go:22", after := #[{ on := 53, ground := Go.Ground.guard }], guard := some (53, true) },
  { dst := some 102, op := Go.Op.move (Go.Operand.tmp 0), type := 22, pos := "law.go:22", after := #[{ on := 53, ground := Go.Ground.guard }], guard := some (53, true) },
  { dst := some 103, op := Go.Op.call { callee := Go.Callee.builtin Go.Builtin.append, args := #[Go.Operand.tmp 101, Go.Operand.tmp 102], argTypes := #[22, 22] }, type := 22, pos := "law.go:22", after := #[{ on := 58, ground := Go.Ground.data }, { on := 59, ground := Go.Ground.data }, { on := 56, ground := Go.Ground.chain }, { on := 53, ground := Go.Ground.guard }], guard := some (53, true) },
  { dst := some 104, op := Go.Op.move (Go.Operand.tmp 2), type := 2, pos := "law.go:22", after := #[{ on := 53, ground := Go.Ground.guard }], guard := some (53, true) },
  { dst := some 105, op := Go.Op.call { callee := Go.Callee.value (Go.Operand.func 17), args := #[Go.Operand.tmp 103, Go.Operand.tmp 104], argTypes := #[22, 2] }, type := 22, pos := "law.go:22", after := #[{ on := 60, ground := Go.Ground.data }, { on := 61, ground := Go.Ground.data }, { on := 60, ground := Go.Ground.chain }, { on := 53, ground := Go.Ground.guard }], guard := some (53, true) },
  { dst := some 106, op := Go.Op.convert 22 9 (Go.Operand.tmp 105), type := 9, pos := "law.go:22", after := #[{ on := 62, ground := Go.Ground.data }, { on := 53, ground := Go.Ground.guard }], guard := some (53, true) },
  { dst := some 107, op := Go.Op.binOp Go.BinOp.eql 9 (Go.Operand.tmp 100) (Go.Operand.tmp 106) 9, type := 4, pos := "law.go:22", after := #[{ on := 57, ground := Go.Ground.data }, { on := 63, ground := Go.Ground.data }, { on := 53, ground := Go.Ground.guard }], guard := some (53, true) },
  { dst := some 108, op := Go.Op.pick (Go.Operand.tmp 96) (Go.Operand.tmp 107) (Go.Operand.const (Go.Value.bool false)), type := 4, pos := "law.go:22", after := #[{ on := 53, ground := Go.Ground.data }, { on := 64, ground := Go.Ground.data }], guard := none },
  { dst := some 109, op := Go.Op.move (Go.Operand.tmp 108), type := 4, pos := "law.go:22", after := #[{ on := 65, ground := Go.Ground.data }, { on := 62, ground := Go.Ground.chain }], guard := none },
  { dst := some 110, op := Go.Op.call { callee := Go.Callee.value (Go.Operand.func 18), args := #[], argTypes := #[] }, type := 4, pos := "law.go:22", after := #[{ on := 66, ground := Go.Ground.chain }, { on := 66, ground := Go.Ground.guard }], guard := some (66, true) },
  { dst := some 111, op := Go.Op.pick (Go.Operand.tmp 109) (Go.Operand.tmp 110) (Go.Operand.const (Go.Value.bool false)), type := 4, pos := "law.go:22", after := #[{ on := 66, ground := Go.Ground.data }, { on := 67, ground := Go.Ground.data }], guard := none },
  { dst := some 6, op := Go.Op.assign (Go.Operand.tmp 111), type := 4, pos := "law.go:22", after := #[{ on := 68, ground := Go.Ground.data }, { on := 67, ground := Go.Ground.chain }, { on := 0, ground := Go.Ground.phase }, { on := 1, ground := Go.Ground.phase }, { on := 2, ground := Go.Ground.phase }, { on := 3, ground := Go.Ground.phase }, { on := 4, ground := Go.Ground.phase }, { on := 5, ground := Go.Ground.phase }, { on := 6, ground := Go.Ground.phase }, { on := 7, ground := Go.Ground.phase }, { on := 8, ground := Go.Ground.phase }, { on := 9, ground := Go.Ground.phase }, { on := 10, ground := Go.Ground.phase }, { on := 11, ground := Go.Ground.phase }, { on := 12, ground := Go.Ground.phase }, { on := 13, ground := Go.Ground.phase }, { on := 14, ground := Go.Ground.phase }, { on := 15, ground := Go.Ground.phase }, { on := 16, ground := Go.Ground.phase }, { on := 17, ground := Go.Ground.phase }, { on := 18, ground := Go.Ground.phase }, { on := 19, ground := Go.Ground.phase }, { on := 20, ground := Go.Ground.phase }, { on := 21, ground := Go.Ground.phase }, { on := 22, ground := Go.Ground.phase }, { on := 23, ground := Go.Ground.phase }, { on := 24, ground := Go.Ground.phase }, { on := 25, ground := Go.Ground.phase }, { on := 26, ground := Go.Ground.phase }, { on := 27, ground := Go.Ground.phase }, { on := 28, ground := Go.Ground.phase }, { on := 29, ground := Go.Ground.phase }, { on := 30, ground := Go.Ground.phase }, { on := 31, ground := Go.Ground.phase }, { on := 32, ground := Go.Ground.phase }, { on := 33, ground := Go.Ground.phase }, { on := 34, ground := Go.Ground.phase }, { on := 35, ground := Go.Ground.phase }, { on := 36, ground := Go.Ground.phase }, { on := 37, ground := Go.Ground.phase }, { on := 38, ground := Go.Ground.phase }, { on := 39, ground := Go.Ground.phase }, { on := 40, ground := Go.Ground.phase }, { on := 41, ground := Go.Ground.phase }, { on := 42, ground := Go.Ground.phase }, { on := 43, ground := Go.Ground.phase }, { on := 44, ground := Go.Ground.phase }, { on := 45, ground := Go.Ground.phase }, { on := 46, ground := Go.Ground.phase }, { on := 47, ground := Go.Ground.phase }, { on := 48, ground := Go.Ground.phase }, { on := 49, ground := Go.Ground.phase }, { on := 50, ground := Go.Ground.phase }, { on := 51, ground := Go.Ground.phase }, { on := 52, ground := Go.Ground.phase }, { on := 53, ground := Go.Ground.phase }, { on := 54, ground := Go.Ground.phase }, { on := 55, ground := Go.Ground.phase }, { on := 56, ground := Go.Ground.phase }, { on := 57, ground := Go.Ground.phase }, { on := 58, ground := Go.Ground.phase }, { on := 59, ground := Go.Ground.phase }, { on := 60, ground := Go.Ground.phase }, { on := 61, ground := Go.Ground.phase }, { on := 62, ground := Go.Ground.phase }, { on := 63, ground := Go.Ground.phase }, { on := 64, ground := Go.Ground.phase }, { on := 65, ground := Go.Ground.phase }, { on := 66, ground := Go.Ground.phase }, { on := 67, ground := Go.Ground.phase }, { on := 68, ground := Go.Ground.phase }], guard := none }]
def wnok_F (w0 : World) (A : Option Addr) (n c : Nat) (xs : List Int) (N I : Int) : Nat → Value → World → (Nat → Prop) → Prop := fun i => match i with
  | 0 => fun v _ _ => v = .int .u64 (takeN xs).1
  | 1 => fun v _ _ => v = .int .u64 (takeN xs).1
  | 2 => fun v _ _ => v = .bool true
  | 3 => fun v _ _ => v = .bool true
  | 4 => fun v _ _ => v = .int .i64 (takeN xs).2.1
  | 5 => fun v _ _ => v = .int .i64 (takeN xs).2.1
  | 6 => fun v _ _ => v = .bool true
  | 7 => fun v _ _ => v = .bool true
  | 8 => fun v _ _ => v = .bool true
  | 9 => fun v _ _ => v = .int .i64 (takeN xs).2.2
  | 10 => fun v _ _ => v = .int .i64 (takeN xs).2.2
  | 11 => fun v _ _ => v = .bool true
  | 12 => fun v _ _ => v = .bool true
  | 13 => fun v _ _ => v = .bool true
  | 14 => fun v _ _ => v = .int .i64 (takeN xs).2.2
  | 15 => fun v _ _ => v = .bool false
  | 16 => fun v _ _ => v = .bool false
  | 17 => fun v _ _ => v = .int .i64 (zag (takeN xs).1)
  | 18 => fun v _ _ => v = .int .i64 (zag (takeN xs).1)
  | 19 => fun v _ _ => v = .bool true
  | 20 => fun v _ _ => v = .bool true
  | 21 => fun v _ _ => v = .bool true
  | 22 => fun v _ _ => v = .bool true
  | 23 => fun v _ _ => v = .int .i64 (takeN xs).2.2
  | 24 => fun v _ _ => v = .bool true
  | 25 => fun v _ _ => v = .bool true
  | 26 => fun v _ _ => v = undef
  | 27 => fun v _ _ => v = undef
  | 28 => fun v _ _ => v = .bool true
  | 29 => fun v _ _ => v = .bool true
  | 30 => fun v _ _ => v = .bool true
  | 31 => fun v _ _ => v = .int .i64 (takeN xs).2.1
  | 32 => fun v _ _ => v = .int .i64 (takeN xs).2.1
  | 33 => fun v _ _ => v = .bool true
  | 34 => fun v _ _ => v = .bool true
  | 35 => fun v _ _ => v = .bool true
  | 36 => fun v _ _ => v = .int .i64 (takeN xs).2.2
  | 37 => fun v _ _ => v = .int .i64 (takeN xs).2.2
  | 38 => fun v _ _ => v = .bool true
  | 39 => fun v _ _ => v = .bool true
  | 40 => fun v _ _ => v = .bool true
  | 41 => fun v _ _ => v = .slice A n c
  | 42 => fun v _ _ => v = .int .u64 N
  | 43 => fun v w O => OwnO w0.heap.size 5 1 (xs ++ putN N).length (nums .u8 (xs ++ putN N)) v w O
  | 44 => fun v _ _ => v = .string (strOfNums (xs ++ putN N))
  | 45 => fun v w O => OwnO w0.heap.size 5 1 ([] : List Int).length (nums .u8 []) v w O
  | 46 => fun v _ _ => v = .slice A n c
  | 47 => fun v w O => OwnO w0.heap.size 5 1 (xs).length (nums .u8 (xs)) v w O
  | 48 => fun v _ _ => v = .int .u64 N
  | 49 => fun v w O => OwnO w0.heap.size 5 1 (xs ++ putN N).length (nums .u8 (xs ++ putN N)) v w O
  | 50 => fun v _ _ => v = .string (strOfNums (xs ++ putN N))
  | 51 => fun v _ _ => v = .bool true
  | 52 => fun v _ _ => v = .bool true
  | 53 => fun v _ _ => v = .bool true
  | 54 => fun v _ _ => v = .slice A n c
  | 55 => fun v _ _ => v = .int .i64 I
  | 56 => fun v w O => OwnO w0.heap.size 5 1 (xs ++ putN (zig I)).length (nums .u8 (xs ++ putN (zig I))) v w O
  | 57 => fun v _ _ => v = .string (strOfNums (xs ++ putN (zig I)))
  | 58 => fun v w O => OwnO w0.heap.size 5 1 ([] : List Int).length (nums .u8 []) v w O
  | 59 => fun v _ _ => v = .slice A n c
  | 60 => fun v w O => OwnO w0.heap.size 5 1 (xs).length (nums .u8 (xs)) v w O
  | 61 => fun v _ _ => v = .int .i64 I
  | 62 => fun v w O => OwnO w0.heap.size 5 1 (xs ++ putN (zig I)).length (nums .u8 (xs ++ putN (zig I))) v w O
  | 63 => fun v _ _ => v = .string (strOfNums (xs ++ putN (zig I)))
  | 64 => fun v _ _ => v = .bool true
  | 65 => fun v _ _ => v = .bool true
  | 66 => fun v _ _ => v = .bool true
  | 67 => fun v _ _ => v = .bool true
  | 68 => fun v _ _ => v = .bool true
  | 69 => fun v _ _ => v = .bool true
  | _ => fun _ _ _ => True
def wnok_C : Nat → List Nat := fun i => match i with
  | 47 => [45]
  | 49 => [47]
  | 60 => [58]
  | 62 => [60]
  | _ => []
theorem wnok_nw0 : nwB wnok_ops.toArray 0 = true := by kernel_rfl
theorem wnok_nw1 : nwB wnok_ops.toArray 1 = true := by kernel_rfl
theorem wnok_nw2 : nwB wnok_ops.toArray 2 = true := by kernel_rfl
theorem wnok_nw7 : nwB wnok_ops.toArray 7 = true := by kernel_rfl
theorem wnok_nw8 : nwB wnok_ops.toArray 8 = true := by kernel_rfl
theorem wnok_nw9 : nwB wnok_ops.toArray 9 = true := by kernel_rfl
theorem wnok_nw10 : nwB wnok_ops.toArray 10 = true := by kernel_rfl
theorem wnok_nw11 : nwB wnok_ops.toArray 11 = true := by kernel_rfl
theorem wnok_nw12 : nwB wnok_ops.toArray 12 = true := by kernel_rfl
theorem wnok_nw13 : nwB wnok_ops.toArray 13 = true := by kernel_rfl
theorem wnok_nw14 : nwB wnok_ops.toArray 14 = true := by kernel_rfl
theorem wnok_nw15 : nwB wnok_ops.toArray 15 = true := by kernel_rfl
theorem wnok_nw16 : nwB wnok_ops.toArray 16 = true := by kernel_rfl
theorem wnok_nw17 : nwB wnok_ops.toArray 17 = true := by kernel_rfl
theorem wnok_nw18 : nwB wnok_ops.toArray 18 = true := by kernel_rfl
set_option maxRecDepth 100000 in
set_option maxHeartbeats 4000000 in
theorem wnok_obs (w0 : World) (A : Option Addr) (n c : Nat) (xs : List Int) (N I : Int) (hr : ReadsInt w0 .u8 A n xs) (hl : n ≤ 140737488351232) (hl2 : xs.length ≤ 140737488355000) (h0N : 0 ≤ N) (h1N : N ≤ 18446744073709551615) (h0I : -9223372036854775808 ≤ I) (h1I : I ≤ 9223372036854775807) (hE : (takeN xs).2.2 = 0) (Q : Exit → Act → World → Prop) (a0 : Act) (hi0 : a0.tmps.getD 0 undef = .slice A n c) (hi1 : a0.tmps.getD 1 undef = .int .u64 N) (hi2 : a0.tmps.getD 2 undef = .int .i64 I) (hi7 : a0.tmps.getD 7 undef = .int .u64 (takeN xs).1) (hi8 : a0.tmps.getD 8 undef = .int .i64 (takeN xs).2.1) (hi9 : a0.tmps.getD 9 undef = .int .i64 (takeN xs).2.2) (hi10 : a0.tmps.getD 10 undef = .int .u64 (takeN xs).1) (hi11 : a0.tmps.getD 11 undef = .int .i64 (takeN xs).2.1) (hi12 : a0.tmps.getD 12 undef = .int .i64 (takeN xs).2.2) (hi13 : a0.tmps.getD 13 undef = .int .i64 (zag (takeN xs).1)) (hi14 : a0.tmps.getD 14 undef = .int .i64 (takeN xs).2.1) (hi15 : a0.tmps.getD 15 undef = .int .i64 (takeN xs).2.2) (hi16 : a0.tmps.getD 16 undef = .int .i64 (zag (takeN xs).1)) (hi17 : a0.tmps.getD 17 undef = .int .i64 (takeN xs).2.1) (hi18 : a0.tmps.getD 18 undef = .int .i64 (takeN xs).2.2) :
    Obs Try.prog wnok_ops.toArray Q w0.heap.size wnok_C (wnok_F w0 A n c xs N I) a0 w0 wnok_ops.toArray.toList 0 := by
  have nw0 := wnok_nw0
  have nw1 := wnok_nw1
  have nw2 := wnok_nw2
  have nw7 := wnok_nw7
  have nw8 := wnok_nw8
  have nw9 := wnok_nw9
  have nw10 := wnok_nw10
  have nw11 := wnok_nw11
  have nw12 := wnok_nw12
  have nw13 := wnok_nw13
  have nw14 := wnok_nw14
  have nw15 := wnok_nw15
  have nw16 := wnok_nw16
  have nw17 := wnok_nw17
  have nw18 := wnok_nw18
  refine ⟨?_, ?_, ?_, ?_, ?_, ?_, ?_, ?_, ?_, ?_, ?_, ?_, ?_, ?_, ?_, ?_, ?_, ?_, ?_, ?_, ?_, ?_, ?_, ?_, ?_, ?_, ?_, ?_, ?_, ?_, ?_, ?_, ?_, ?_, ?_, ?_, ?_, ?_, ?_, ?_, ?_, ?_, ?_, ?_, ?_, ?_, ?_, ?_, ?_, ?_, ?_, ?_, ?_, ?_, ?_, ?_, ?_, ?_, ?_, ?_, ?_, ?_, ?_, ?_, ?_, ?_, ?_, ?_, ?_, ?_, trivial⟩
  · refine ⟨stable_det _, ?_⟩
    intro a w O hk
    have e7 : a.tmps.getD 7 undef = .int .u64 (takeN xs).1 := (hk.init 7 (initialB_of_nw nw7)).trans hi7
    exact ob_move rfl e7 (wanted_none rfl) rfl
  · refine ⟨stable_det _, ?_⟩
    intro a w O hk
    have e10 : a.tmps.getD 10 undef = .int .u64 (takeN xs).1 := (hk.init 10 (initialB_of_nw nw10)).trans hi10
    exact ob_move rfl e10 (wanted_none rfl) rfl
  · refine ⟨stable_det _, ?_⟩
    intro a w O hk
    have e43 : a.tmps.getD 43 undef = .int .u64 (takeN xs).1 := hk.fact 0 _ 43 rfl rfl rfl rfl
    have e44 : a.tmps.getD 44 undef = .int .u64 (takeN xs).1 := hk.fact 1 _ 44 rfl rfl rfl rfl
    exact ob_eqlInt true rfl e43 e44 (by simp) (wanted_none rfl) rfl
  · refine ⟨stable_det _, ?_⟩
    intro a w O hk
    have e45 : a.tmps.getD 45 undef = .bool true := hk.fact 2 _ 45 rfl rfl rfl rfl
    exact ob_move rfl e45 (wanted_none rfl) rfl
  · refine ⟨stable_det _, ?_⟩
    intro a w O hk
    have e8 : a.tmps.getD 8 undef = .int .i64 (takeN xs).2.1 := (hk.init 8 (initialB_of_nw nw8)).trans hi8
    have e46 : a.tmps.getD 46 undef = .bool true := hk.fact 3 _ 46 rfl rfl rfl rfl
    exact ob_move rfl e8 (wanted_of rfl rfl rfl e46) rfl
  · refine ⟨stable_det _, ?_⟩
    intro a w O hk
    have e11 : a.tmps.getD 11 undef = .int .i64 (takeN xs).2.1 := (hk.init 11 (initialB_of_nw nw11)).trans hi11
    have e46 : a.tmps.getD 46 undef = .bool true := hk.fact 3 _ 46 rfl rfl rfl rfl
    exact ob_move rfl e11 (wanted_of rfl rfl rfl e46) rfl
  · refine ⟨stable_det _, ?_⟩
    intro a w O hk
    have e47 : a.tmps.getD 47 undef = .int .i64 (takeN xs).2.1 := hk.fact 4 _ 47 rfl rfl rfl rfl
    have e48 : a.tmps.getD 48 undef = .int .i64 (takeN xs).2.1 := hk.fact 5 _ 48 rfl rfl rfl rfl
    have e46 : a.tmps.getD 46 undef = .bool true := hk.fact 3 _ 46 rfl rfl rfl rfl
    exact ob_eqlInt true rfl e47 e48 (by simp) (wanted_of rfl rfl rfl e46) rfl
  · refine ⟨stable_det _, ?_⟩
    intro a w O hk
    have e46 : a.tmps.getD 46 undef = .bool true := hk.fact 3 _ 46 rfl rfl rfl rfl
    have e49 : a.tmps.getD 49 undef = .bool true := hk.fact 6 _ 49 rfl rfl rfl rfl
    exact ob_pick rfl e46 e49 (wanted_none rfl) rfl
  · refine ⟨stable_det _, ?_⟩
    intro a w O hk
    have e50 : a.tmps.getD 50 undef = .bool true := hk.fact 7 _ 50 rfl rfl rfl rfl
    exact ob_move rfl e50 (wanted_none rfl) rfl
  · refine ⟨stable_det _, ?_⟩
    intro a w O hk
    have e9 : a.tmps.getD 9 undef = .int .i64 (takeN xs).2.2 := (hk.init 9 (initialB_of_nw nw9)).trans hi9
    have e51 : a.tmps.getD 51 undef = .bool true := hk.fact 8 _ 51 rfl rfl rfl rfl
    exact ob_move rfl e9 (wanted_of rfl rfl rfl e51) rfl
  · refine ⟨stable_det _, ?_⟩
    intro a w O hk
    have e12 : a.tmps.getD 12 undef = .int .i64 (takeN xs).2.2 := (hk.init 12 (initialB_of_nw nw12)).trans hi12
    have e51 : a.tmps.getD 51 undef = .bool true := hk.fact 8 _ 51 rfl rfl rfl rfl
    exact ob_move rfl e12 (wanted_of rfl rfl rfl e51) rfl
  · refine ⟨stable_det _, ?_⟩
    intro a w O hk
    have e52 : a.tmps.getD 52 undef = .int .i64 (takeN xs).2.2 := hk.fact 9 _ 52 rfl rfl rfl rfl
    have e53 : a.tmps.getD 53 undef = .int .i64 (takeN xs).2.2 := hk.fact 10 _ 53 rfl rfl rfl rfl
    have e51 : a.tmps.getD 51 undef = .bool true := hk.fact 8 _ 51 rfl rfl rfl rfl
    exact ob_eqlInt true rfl e52 e53 (by simp) (wanted_of rfl rfl rfl e51) rfl
  · refine ⟨stable_det _, ?_⟩
    intro a w O hk
    have e51 : a.tmps.getD 51 undef = .bool true := hk.fact 8 _ 51 rfl rfl rfl rfl
    have e54 : a.tmps.getD 54 undef = .bool true := hk.fact 11 _ 54 rfl rfl rfl rfl
    exact ob_pick rfl e51 e54 (wanted_none rfl) rfl
  · refine ⟨stable_det _, ?_⟩
    intro a w O hk
    have e55 : a.tmps.getD 55 undef = .bool true := hk.fact 12 _ 55 rfl rfl rfl rfl
    exact ob_move rfl e55 (wanted_none rfl) rfl
  · refine ⟨stable_det _, ?_⟩
    intro a w O hk
    have e15 : a.tmps.getD 15 undef = .int .i64 (takeN xs).2.2 := (hk.init 15 (initialB_of_nw nw15)).trans hi15
    have e56 : a.tmps.getD 56 undef = .bool true := hk.fact 13 _ 56 rfl rfl rfl rfl
    exact ob_move rfl e15 (wanted_of rfl rfl rfl e56) rfl
  · refine ⟨stable_det _, ?_⟩
    intro a w O hk
    have e57 : a.tmps.getD 57 undef = .int .i64 (takeN xs).2.2 := hk.fact 14 _ 57 rfl rfl rfl rfl
    have e56 : a.tmps.getD 56 undef = .bool true := hk.fact 13 _ 56 rfl rfl rfl rfl
    exact ob_neqInt false rfl e57 rfl (by simp [hE]) (wanted_of rfl rfl rfl e56) rfl
  · refine ⟨stable_det _, ?_⟩
    intro a w O hk
    have e58 : a.tmps.getD 58 undef = .bool false := hk.fact 15 _ 58 rfl rfl rfl rfl
    have e56 : a.tmps.getD 56 undef = .bool true := hk.fact 13 _ 56 rfl rfl rfl rfl
    exact ob_move rfl e58 (wanted_of rfl rfl rfl e56) rfl
  · refine ⟨stable_det _, ?_⟩
    intro a w O hk
    have e13 : a.tmps.getD 13 undef = .int .i64 (zag (takeN xs).1) := (hk.init 13 (initialB_of_nw nw13)).trans hi13
    have e59 : a.tmps.getD 59 undef = .bool false := hk.fact 16 _ 59 rfl rfl rfl rfl
    exact ob_move rfl e13 (wanted_of rfl rfl rfl e59) rfl
  · refine ⟨stable_det _, ?_⟩
    intro a w O hk
    have e16 : a.tmps.getD 16 undef = .int .i64 (zag (takeN xs).1) := (hk.init 16 (initialB_of_nw nw16)).trans hi16
    have e59 : a.tmps.getD 59 undef = .bool false := hk.fact 16 _ 59 rfl rfl rfl rfl
    exact ob_move rfl e16 (wanted_of rfl rfl rfl e59) rfl
  · refine ⟨stable_det _, ?_⟩
    intro a w O hk
    have e60 : a.tmps.getD 60 undef = .int .i64 (zag (takeN xs).1) := hk.fact 17 _ 60 rfl rfl rfl rfl
    have e61 : a.tmps.getD 61 undef = .int .i64 (zag (takeN xs).1) := hk.fact 18 _ 61 rfl rfl rfl rfl
    have e59 : a.tmps.getD 59 undef = .bool false := hk.fact 16 _ 59 rfl rfl rfl rfl
    exact ob_eqlInt true rfl e60 e61 (by simp) (wanted_of rfl rfl rfl e59) rfl
  · refine ⟨stable_det _, ?_⟩
    intro a w O hk
    have e59 : a.tmps.getD 59 undef = .bool false := hk.fact 16 _ 59 rfl rfl rfl rfl
    have e62 : a.tmps.getD 62 undef = .bool true := hk.fact 19 _ 62 rfl rfl rfl rfl
    have e56 : a.tmps.getD 56 undef = .bool true := hk.fact 13 _ 56 rfl rfl rfl rfl
    exact ob_pick rfl e59 e62 (wanted_of rfl rfl rfl e56) rfl
  · refine ⟨stable_det _, ?_⟩
    intro a w O hk
    have e56 : a.tmps.getD 56 undef = .bool true := hk.fact 13 _ 56 rfl rfl rfl rfl
    have e63 : a.tmps.getD 63 undef = .bool true := hk.fact 20 _ 63 rfl rfl rfl rfl
    exact ob_pick rfl e56 e63 (wanted_none rfl) rfl
  · refine ⟨stable_det _, ?_⟩
    intro a w O hk
    have e64 : a.tmps.getD 64 undef = .bool true := hk.fact 21 _ 64 rfl rfl rfl rfl
    exact ob_move rfl e64 (wanted_none rfl) rfl
  · refine ⟨stable_det _, ?_⟩
    intro a w O hk
    have e15 : a.tmps.getD 15 undef = .int .i64 (takeN xs).2.2 := (hk.init 15 (initialB_of_nw nw15)).trans hi15
    have e65 : a.tmps.getD 65 undef = .bool true := hk.fact 22 _ 65 rfl rfl rfl rfl
    exact ob_move rfl e15 (wanted_of rfl rfl rfl e65) rfl
  · refine ⟨stable_det _, ?_⟩
    intro a w O hk
    have e66 : a.tmps.getD 66 undef = .int .i64 (takeN xs).2.2 := hk.fact 23 _ 66 rfl rfl rfl rfl
    have e65 : a.tmps.getD 65 undef = .bool true := hk.fact 22 _ 65 rfl rfl rfl rfl
    exact ob_eqlInt true rfl e66 rfl (by simp [hE]) (wanted_of rfl rfl rfl e65) rfl
  · refine ⟨stable_det _, ?_⟩
    intro a w O hk
    have e67 : a.tmps.getD 67 undef = .bool true := hk.fact 24 _ 67 rfl rfl rfl rfl
    have e65 : a.tmps.getD 65 undef = .bool true := hk.fact 22 _ 65 rfl rfl rfl rfl
    exact ob_move rfl e67 (wanted_of rfl rfl rfl e65) rfl
  · refine ⟨stable_det _, ?_⟩
    intro a w O hk
    have e13 : a.tmps.getD 13 undef = .int .i64 (zag (takeN xs).1) := (hk.init 13 (initialB_of_nw nw13)).trans hi13
    have e68 : a.tmps.getD 68 undef = .bool true := hk.fact 25 _ 68 rfl rfl rfl rfl
    exact ob_skip (unwanted_of rfl rfl rfl e68 (by decide)) rfl
  · refine ⟨stable_det _, ?_⟩
    intro a w O hk
    have e69 : a.tmps.getD 69 undef = undef := hk.fact 26 _ 69 rfl rfl rfl rfl
    have e68 : a.tmps.getD 68 undef = .bool true := hk.fact 25 _ 68 rfl rfl rfl rfl
    exact ob_skip (unwanted_of rfl rfl rfl e68 (by decide)) rfl
  · refine ⟨stable_det _, ?_⟩
    intro a w O hk
    have e68 : a.tmps.getD 68 undef = .bool true := hk.fact 25 _ 68 rfl rfl rfl rfl
    have e70 : a.tmps.getD 70 undef = undef := hk.fact 27 _ 70 rfl rfl rfl rfl
    have e65 : a.tmps.getD 65 undef = .bool true := hk.fact 22 _ 65 rfl rfl rfl rfl
    exact ob_pick rfl e68 rfl (wanted_of rfl rfl rfl e65) rfl
  · refine ⟨stable_det _, ?_⟩
    intro a w O hk
    have e65 : a.tmps.getD 65 undef = .bool true := hk.fact 22 _ 65 rfl rfl rfl rfl
    have e71 : a.tmps.getD 71 undef = .bool true := hk.fact 28 _ 71 rfl rfl rfl rfl
    exact ob_pick rfl e65 e71 (wanted_none rfl) rfl
  · refine ⟨stable_det _, ?_⟩
    intro a w O hk
    have e72 : a.tmps.getD 72 undef = .bool true := hk.fact 29 _ 72 rfl rfl rfl rfl
    exact ob_move rfl e72 (wanted_none rfl) rfl
  · refine ⟨stable_det _, ?_⟩
    intro a w O hk
    have e14 : a.tmps.getD 14 undef = .int .i64 (takeN xs).2.1 := (hk.init 14 (initialB_of_nw nw14)).trans hi14
    have e73 : a.tmps.getD 73 undef = .bool true := hk.fact 30 _ 73 rfl rfl rfl rfl
    exact ob_move rfl e14 (wanted_of rfl rfl rfl e73) rfl
  · refine ⟨stable_det _, ?_⟩
    intro a w O hk
    have e17 : a.tmps.getD 17 undef = .int .i64 (takeN xs).2.1 := (hk.init 17 (initialB_of_nw nw17)).trans hi17
    have e73 : a.tmps.getD 73 undef = .bool true := hk.fact 30 _ 73 rfl rfl rfl rfl
    exact ob_move rfl e17 (wanted_of rfl rfl rfl e73) rfl
  · refine ⟨stable_det _, ?_⟩
    intro a w O hk
    have e74 : a.tmps.getD 74 undef = .int .i64 (takeN xs).2.1 := hk.fact 31 _ 74 rfl rfl rfl rfl
    have e75 : a.tmps.getD 75 undef = .int .i64 (takeN xs).2.1 := hk.fact 32 _ 75 rfl rfl rfl rfl
    have e73 : a.tmps.getD 73 undef = .bool true := hk.fact 30 _ 73 rfl rfl rfl rfl
    exact ob_eqlInt true rfl e74 e75 (by simp) (wanted_of rfl rfl rfl e73) rfl
  · refine ⟨stable_det _, ?_⟩
    intro a w O hk
    have e73 : a.tmps.getD 73 undef = .bool true := hk.fact 30 _ 73 rfl rfl rfl rfl
    have e76 : a.tmps.getD 76 undef = .bool true := hk.fact 33 _ 76 rfl rfl rfl rfl
    exact ob_pick rfl e73 e76 (wanted_none rfl) rfl
  · refine ⟨stable_det _, ?_⟩
    intro a w O hk
    have e77 : a.tmps.getD 77 undef = .bool true := hk.fact 34 _ 77 rfl rfl rfl rfl
    exact ob_move rfl e77 (wanted_none rfl) rfl
  · refine ⟨stable_det _, ?_⟩
    intro a w O hk
    have e15 : a.tmps.getD 15 undef = .int .i64 (takeN xs).2.2 := (hk.init 15 (initialB_of_nw nw15)).trans hi15
    have e78 : a.tmps.getD 78 undef = .bool true := hk.fact 35 _ 78 rfl rfl rfl rfl
    exact ob_move rfl e15 (wanted_of rfl rfl rfl e78) rfl
  · refine ⟨stable_det _, ?_⟩
    intro a w O hk
    have e18 : a.tmps.getD 18 undef = .int .i64 (takeN xs).2.2 := (hk.init 18 (initialB_of_nw nw18)).trans hi18
    have e78 : a.tmps.getD 78 undef = .bool true := hk.fact 35 _ 78 rfl rfl rfl rfl
    exact ob_move rfl e18 (wanted_of rfl rfl rfl e78) rfl
  · refine ⟨stable_det _, ?_⟩
    intro a w O hk
    have e79 : a.tmps.getD 79 undef = .int .i64 (takeN xs).2.2 := hk.fact 36 _ 79 rfl rfl rfl rfl
    have e80 : a.tmps.getD 80 undef = .int .i64 (takeN xs).2.2 := hk.fact 37 _ 80 rfl rfl rfl rfl
    have e78 : a.tmps.getD 78 undef = .bool true := hk.fact 35 _ 78 rfl rfl rfl rfl
    exact ob_eqlInt true rfl e79 e80 (by simp) (wanted_of rfl rfl rfl e78) rfl
  · refine ⟨stable_det _, ?_⟩
    intro a w O hk
    have e78 : a.tmps.getD 78 undef = .bool true := hk.fact 35 _ 78 rfl rfl rfl rfl
    have e81 : a.tmps.getD 81 undef = .bool true := hk.fact 38 _ 81 rfl rfl rfl rfl
    exact ob_pick rfl e78 e81 (wanted_none rfl) rfl
  · refine ⟨stable_det _, ?_⟩
    intro a w O hk
    have e82 : a.tmps.getD 82 undef = .bool true := hk.fact 39 _ 82 rfl rfl rfl rfl
    exact ob_move rfl e82 (wanted_none rfl) rfl
  · refine ⟨stable_det _, ?_⟩
    intro a w O hk
    have e0 : a.tmps.getD 0 undef = .slice A n c := (hk.init 0 (initialB_of_nw nw0)).trans hi0
    have e83 : a.tmps.getD 83 undef = .bool true := hk.fact 40 _ 83 rfl rfl rfl rfl
    exact ob_move rfl e0 (wanted_of rfl rfl rfl e83) rfl
  · refine ⟨stable_det _, ?_⟩
    intro a w O hk
    have e1 : a.tmps.getD 1 undef = .int .u64 N := (hk.init 1 (initialB_of_nw nw1)).trans hi1
    have e83 : a.tmps.getD 83 undef = .bool true := hk.fact 40 _ 83 rfl rfl rfl rfl
    exact ob_move rfl e1 (wanted_of rfl rfl rfl e83) rfl
  · refine ⟨stable_own _ _ _ _, ?_⟩
    intro a w O hk
    have e84 : a.tmps.getD 84 undef = .slice A n c := hk.fact 41 _ 84 rfl rfl rfl rfl
    have e85 : a.tmps.getD 85 undef = .int .u64 N := hk.fact 42 _ 85 rfl rfl rfl rfl
    have e83 : a.tmps.getD 83 undef = .bool true := hk.fact 40 _ 83 rfl rfl rfl rfl
    refine ob_callFresh #[.slice A n c, .int .u64 N] Try.func14 rfl rfl rfl (by show [a.tmps.getD 84 undef, a.tmps.getD 85 undef] = [_, _]; rw [e84, e85]) (wanted_of rfl rfl rfl e83) hk.base ?_
    exact put_calls A n c xs N w (hr.below hk.world) h0N h1N hl
  · refine ⟨stable_det _, ?_⟩
    intro a w O hk
    have f86 := hk.fact 43 _ 86 rfl rfl rfl rfl
    have g86 := hk.owns 43 rfl rfl
    have e83 : a.tmps.getD 83 undef = .bool true := hk.fact 40 _ 83 rfl rfl rfl rfl
    exact ob_convert rfl rfl (own_string Try.underlying22 Try.underlying5 Try.underlying9 f86.1) (wanted_of rfl rfl rfl e83) rfl
  · refine ⟨stable_own _ _ _ _, ?_⟩
    intro a w O hk
    have e83 : a.tmps.getD 83 undef = .bool true := hk.fact 40 _ 83 rfl rfl rfl rfl
    exact ob_empty (by simp [execOp, go_sem]) (wanted_of rfl rfl rfl e83) hk.base
  · refine ⟨stable_det _, ?_⟩
    intro a w O hk
    have e0 : a.tmps.getD 0 undef = .slice A n c := (hk.init 0 (initialB_of_nw nw0)).trans hi0
    have e83 : a.tmps.getD 83 undef = .bool true := hk.fact 40 _ 83 rfl rfl rfl rfl
    exact ob_move rfl e0 (wanted_of rfl rfl rfl e83) rfl
  · refine ⟨stable_own _ _ _ _, ?_⟩
    intro a w O hk
    have f88 := hk.fact 45 _ 88 rfl rfl rfl rfl
    have g88 := hk.owns 45 rfl rfl
    have e89 : a.tmps.getD 89 undef = .slice A n c := hk.fact 46 _ 89 rfl rfl rfl rfl
    have e83 : a.tmps.getD 83 undef = .bool true := hk.fact 40 _ 83 rfl rfl rfl rfl
    refine ob_listGrew 45 (a.tmps.getD 88 undef) (wanted_of rfl rfl rfl e83) (by simp [wnok_C]) f88.2 (fun Q' hQ => ?_)
    refine print_append_row (w0 := w) w0.heap.size rfl (.tmp 88) (.tmp 89) 22 5 .u8 1 rfl Try.underlying22 infoU8 (by decide) (a.tmps.getD 88 undef) [] xs A n c rfl e89 f88.1 (hr.below hk.world) ((Below.refl _ _).mono hk.base) hk.base (by simp; omega) ?_
    intro v1 w1 ho _ hg hat
    exact hQ v1 w1 (by simpa using ho) hg hat
  · refine ⟨stable_det _, ?_⟩
    intro a w O hk
    have e1 : a.tmps.getD 1 undef = .int .u64 N := (hk.init 1 (initialB_of_nw nw1)).trans hi1
    have e83 : a.tmps.getD 83 undef = .bool true := hk.fact 40 _ 83 rfl rfl rfl rfl
    exact ob_move rfl e1 (wanted_of rfl rfl rfl e83) rfl
  · refine ⟨stable_own _ _ _ _, ?_⟩
    intro a w O hk
    have f90 := hk.fact 47 _ 90 rfl rfl rfl rfl
    have g90 := hk.owns 47 rfl rfl
    have e91 : a.tmps.getD 91 undef = .int .u64 N := hk.fact 48 _ 91 rfl rfl rfl rfl
    have e83 : a.tmps.getD 83 undef = .bool true := hk.fact 40 _ 83 rfl rfl rfl rfl
    refine ob_callGrew 47 (a.tmps.getD 90 undef) #[a.tmps.getD 90 undef, .int .u64 N] Try.func15 rfl rfl rfl (by show [a.tmps.getD 90 undef, a.tmps.getD 91 undef] = [_, _]; rw [e91]) (wanted_of rfl rfl rfl e83) (by simp [wnok_C]) f90.2 ?_
    exact refPut_calls w0.heap.size _ xs N w f90.1 hk.base h0N h1N hl2
  · refine ⟨stable_det _, ?_⟩
    intro a w O hk
    have f92 := hk.fact 49 _ 92 rfl rfl rfl rfl
    have g92 := hk.owns 49 rfl rfl
    have e83 : a.tmps.getD 83 undef = .bool true := hk.fact 40 _ 83 rfl rfl rfl rfl
    exact ob_convert rfl rfl (own_string Try.underlying22 Try.underlying5 Try.underlying9 f92.1) (wanted_of rfl rfl rfl e83) rfl
  · refine ⟨stable_det _, ?_⟩
    intro a w O hk
    have e87 : a.tmps.getD 87 undef = .string (strOfNums (xs ++ putN N)) := hk.fact 44 _ 87 rfl rfl rfl rfl
    have e93 : a.tmps.getD 93 undef = .string (strOfNums (xs ++ putN N)) := hk.fact 50 _ 93 rfl rfl rfl rfl
    have e83 : a.tmps.getD 83 undef = .bool true := hk.fact 40 _ 83 rfl rfl rfl rfl
    exact ob_eqlStr rfl e87 e93 rfl (wanted_of rfl rfl rfl e83) rfl
  · refine ⟨stable_det _, ?_⟩
    intro a w O hk
    have e83 : a.tmps.getD 83 undef = .bool true := hk.fact 40 _ 83 rfl rfl rfl rfl
    have e94 : a.tmps.getD 94 undef = .bool true := hk.fact 51 _ 94 rfl rfl rfl rfl
    exact ob_pick rfl e83 e94 (wanted_none rfl) rfl
  · refine ⟨stable_det _, ?_⟩
    intro a w O hk
    have e95 : a.tmps.getD 95 undef = .bool true := hk.fact 52 _ 95 rfl rfl rfl rfl
    exact ob_move rfl e95 (wanted_none rfl) rfl
  · refine ⟨stable_det _, ?_⟩
    intro a w O hk
    have e0 : a.tmps.getD 0 undef = .slice A n c := (hk.init 0 (initialB_of_nw nw0)).trans hi0
    have e96 : a.tmps.getD 96 undef = .bool true := hk.fact 53 _ 96 rfl rfl rfl rfl
    exact ob_move rfl e0 (wanted_of rfl rfl rfl e96) rfl
  · refine ⟨stable_det _, ?_⟩
    intro a w O hk
    have e2 : a.tmps.getD 2 undef = .int .i64 I := (hk.init 2 (initialB_of_nw nw2)).trans hi2
    have e96 : a.tmps.getD 96 undef = .bool true := hk.fact 53 _ 96 rfl rfl rfl rfl
    exact ob_move rfl e2 (wanted_of rfl rfl rfl e96) rfl
  · refine ⟨stable_own _ _ _ _, ?_⟩
    intro a w O hk
    have e97 : a.tmps.getD 97 undef = .slice A n c := hk.fact 54 _ 97 rfl rfl rfl rfl
    have e98 : a.tmps.getD 98 undef = .int .i64 I := hk.fact 55 _ 98 rfl rfl rfl rfl
    have e96 : a.tmps.getD 96 undef = .bool true := hk.fact 53 _ 96 rfl rfl rfl rfl
    refine ob_callFresh #[.slice A n c, .int .i64 I] Try.func16 rfl rfl rfl (by show [a.tmps.getD 97 undef, a.tmps.getD 98 undef] = [_, _]; rw [e97, e98]) (wanted_of rfl rfl rfl e96) hk.base ?_
    exact putInt_calls A n c xs I w (hr.below hk.world) h0I h1I hl
  · refine ⟨stable_det _, ?_⟩
    intro a w O hk
    have f99 := hk.fact 56 _ 99 rfl rfl rfl rfl
    have g99 := hk.owns 56 rfl rfl
    have e96 : a.tmps.getD 96 undef = .bool true := hk.fact 53 _ 96 rfl rfl rfl rfl
    exact ob_convert rfl rfl (own_string Try.underlying22 Try.underlying5 Try.underlying9 f99.1) (wanted_of rfl rfl rfl e96) rfl
  · refine ⟨stable_own _ _ _ _, ?_⟩
    intro a w O hk
    have e96 : a.tmps.getD 96 undef = .bool true := hk.fact 53 _ 96 rfl rfl rfl rfl
    exact ob_empty (by simp [execOp, go_sem]) (wanted_of rfl rfl rfl e96) hk.base
  · refine ⟨stable_det _, ?_⟩
    intro a w O hk
    have e0 : a.tmps.getD 0 undef = .slice A n c := (hk.init 0 (initialB_of_nw nw0)).trans hi0
    have e96 : a.tmps.getD 96 undef = .bool true := hk.fact 53 _ 96 rfl rfl rfl rfl
    exact ob_move rfl e0 (wanted_of rfl rfl rfl e96) rfl
  · refine ⟨stable_own _ _ _ _, ?_⟩
    intro a w O hk
    have f101 := hk.fact 58 _ 101 rfl rfl rfl rfl
    have g101 := hk.owns 58 rfl rfl
    have e102 : a.tmps.getD 102 undef = .slice A n c := hk.fact 59 _ 102 rfl rfl rfl rfl
    have e96 : a.tmps.getD 96 undef = .bool true := hk.fact 53 _ 96 rfl rfl rfl rfl
    refine ob_listGrew 58 (a.tmps.getD 101 undef) (wanted_of rfl rfl rfl e96) (by simp [wnok_C]) f101.2 (fun Q' hQ => ?_)
    refine print_append_row (w0 := w) w0.heap.size rfl (.tmp 101) (.tmp 102) 22 5 .u8 1 rfl Try.underlying22 infoU8 (by decide) (a.tmps.getD 101 undef) [] xs A n c rfl e102 f101.1 (hr.below hk.world) ((Below.refl _ _).mono hk.base) hk.base (by simp; omega) ?_
    intro v1 w1 ho _ hg hat
    exact hQ v1 w1 (by simpa using ho) hg hat
  · refine ⟨stable_det _, ?_⟩
    intro a w O hk
    have e2 : a.tmps.getD 2 undef = .int .i64 I := (hk.init 2 (initialB_of_nw nw2)).trans hi2
    have e96 : a.tmps.getD 96 undef = .bool true := hk.fact 53 _ 96 rfl rfl rfl rfl
    exact ob_move rfl e2 (wanted_of rfl rfl rfl e96) rfl
  · refine ⟨stable_own _ _ _ _, ?_⟩
    intro a w O hk
    have f103 := hk.fact 60 _ 103 rfl rfl rfl rfl
    have g103 := hk.owns 60 rfl rfl
    have e104 : a.tmps.getD 104 undef = .int .i64 I := hk.fact 61 _ 104 rfl rfl rfl rfl
    have e96 : a.tmps.getD 96 undef = .bool true := hk.fact 53 _ 96 rfl rfl rfl rfl
    refine ob_callGrew 60 (a.tmps.getD 103 undef) #[a.tmps.getD 103 undef, .int .i64 I] Try.func17 rfl rfl rfl (by show [a.tmps.getD 103 undef, a.tmps.getD 104 undef] = [_, _]; rw [e104]) (wanted_of rfl rfl rfl e96) (by simp [wnok_C]) f103.2 ?_
    exact refPutInt_calls w0.heap.size _ xs I w f103.1 hk.base h0I h1I hl2
  · refine ⟨stable_det _, ?_⟩
    intro a w O hk
    have f105 := hk.fact 62 _ 105 rfl rfl rfl rfl
    have g105 := hk.owns 62 rfl rfl
    have e96 : a.tmps.getD 96 undef = .bool true := hk.fact 53 _ 96 rfl rfl rfl rfl
    exact ob_convert rfl rfl (own_string Try.underlying22 Try.underlying5 Try.underlying9 f105.1) (wanted_of rfl rfl rfl e96) rfl
  · refine ⟨stable_det _, ?_⟩
    intro a w O hk
    have e100 : a.tmps.getD 100 undef = .string (strOfNums (xs ++ putN (zig I))) := hk.fact 57 _ 100 rfl rfl rfl rfl
    have e106 : a.tmps.getD 106 undef = .string (strOfNums (xs ++ putN (zig I))) := hk.fact 63 _ 106 rfl rfl rfl rfl
    have e96 : a.tmps.getD 96 undef = .bool true := hk.fact 53 _ 96 rfl rfl rfl rfl
    exact ob_eqlStr rfl e100 e106 rfl (wanted_of rfl rfl rfl e96) rfl
  · refine ⟨stable_det _, ?_⟩
    intro a w O hk
    have e96 : a.tmps.getD 96 undef = .bool true := hk.fact 53 _ 96 rfl rfl rfl rfl
    have e107 : a.tmps.getD 107 undef = .bool true := hk.fact 64 _ 107 rfl rfl rfl rfl
    exact ob_pick rfl e96 e107 (wanted_none rfl) rfl
  · refine ⟨stable_det _, ?_⟩
    intro a w O hk
    have e108 : a.tmps.getD 108 undef = .bool true := hk.fact 65 _ 108 rfl rfl rfl rfl
    exact ob_move rfl e108 (wanted_none rfl) rfl
  · refine ⟨stable_det _, ?_⟩
    intro a w O hk
    have e109 : a.tmps.getD 109 undef = .bool true := hk.fact 66 _ 109 rfl rfl rfl rfl
    refine ob_call #[] Try.func18 rfl rfl rfl rfl (wanted_of rfl rfl rfl e109) ((awake_calls w).mono ?_)
    rintro e w' ⟨rfl, hb⟩
    exact ⟨_, fun _ => False, rfl, rfl, Chg.of_below hb, fun _ h => h.elim⟩
  · refine ⟨stable_det _, ?_⟩
    intro a w O hk
    have e109 : a.tmps.getD 109 undef = .bool true := hk.fact 66 _ 109 rfl rfl rfl rfl
    have e110 : a.tmps.getD 110 undef = .bool true := hk.fact 67 _ 110 rfl rfl rfl rfl
    exact ob_pick rfl e109 e110 (wanted_none rfl) rfl
  · refine ⟨stable_det _, ?_⟩
    intro a w O hk
    have e111 : a.tmps.getD 111 undef = .bool true := hk.fact 68 _ 111 rfl rfl rfl rfl
    exact ob_assign rfl e111 (wanted_none rfl) rfl

def wnno_ops : List Oper := [
  { dst := some 43, op := Go.Op.move (Go.Operand.tmp 7), type := 23, pos := "law.go:22", after := #[], guard := none },
  { dst := some 44, op := Go.Op.move (Go.Operand.tmp 10), type := 23, pos := "law.go:22", after := #[], guard := none },
  { dst := some 45, op := Go.Op.binOp Go.BinOp.eql 23 (Go.Operand.tmp 43) (Go.Operand.tmp 44) 23, type := 4, pos := "law.go:22", after := #[{ on := 0, ground := Go.Ground.data }, { on := 1, ground := Go.Ground.data }], guard := none },
  { dst := some 46, op := Go.Op.move (Go.Operand.tmp 45), type := 4, pos := "law.go:22", after := #[{ on := 2, ground := Go.Ground.data }], guard := none },
  { dst := some 47, op := Go.Op.move (Go.Operand.tmp 8), type := 3, pos := "law.go:22", after := #[{ on := 3, ground := Go.Ground.guard }], guard := some (3, true) },
  { dst := some 48, op := Go.Op.move (Go.Operand.tmp 11), type := 3, pos := "law.go:22", after := #[{ on := 3, ground := Go.Ground.guard }], guard := some (3, true) },
  { dst := some 49, op := Go.Op.binOp Go.BinOp.eql 3 (Go.Operand.tmp 47) (Go.Operand.tmp 48) 3, type := 4, pos := "law.go:22", after := #[{ on := 4, ground := Go.Ground.data }, { on := 5, ground := Go.Ground.data }, { on := 3, ground := Go.Ground.guard }], guard := some (3, true) },
  { dst := some 50, op := Go.Op.pick (Go.Operand.tmp 46) (Go.Operand.tmp 49) (Go.Operand.const (Go.Value.bool false)), type := 4, pos := "law.go:22", after := #[{ on := 3, ground := Go.Ground.data }, { on := 6, ground := Go.Ground.data }], guard := none },
  { dst := some 51, op := Go.Op.move (Go.Operand.tmp 50), type := 4, pos := "law.go:22", after := #[{ on := 7, ground := Go.Ground.data }, { on := 3, ground := Go.Ground.chain }], guard := none },
  { dst := some 52, op := Go.Op.move (Go.Operand.tmp 9), type := 24, pos := "law.go:22", after := #[{ on := 8, ground := Go.Ground.guard }], guard := some (8, true) },
  { dst := some 53, op := Go.Op.move (Go.Operand.tmp 12), type := 24, pos := "law.go:22", after := #[{ on := 8, ground := Go.Ground.guard }], guard := some (8, true) },
  { dst := some 54, op := Go.Op.binOp Go.BinOp.eql 24 (Go.Operand.tmp 52) (Go.Operand.tmp 53) 24, type := 4, pos := "law.go:22", after := #[{ on := 9, ground := Go.Ground.data }, { on := 10, ground := Go.Ground.data }, { on := 8, ground := Go.Ground.guard }], guard := some (8, true) },
  { dst := some 55, op := Go.Op.pick (Go.Operand.tmp 51) (Go.Operand.tmp 54) (Go.Operand.const (Go.Value.bool false)), type := 4, pos := "law.go:22", after := #[{ on := 8, ground := Go.Ground.data }, { on := 11, ground := Go.Ground.data }], guard := none },
  { dst := some 56, op := Go.Op.move (Go.Operand.tmp 55), type := 4, pos := "law.go:22", after := #[{ on := 12, ground := Go.Ground.data }, { on := 8, ground := Go.Ground.chain }], guard := none },
  { dst := some 57, op := Go.Op.move (Go.Operand.tmp 15), type := 24, pos := "law.go:22", after := #[{ on := 13, ground := Go.Ground.guard }], guard := some (13, true) },
  { dst := some 58, op := Go.Op.binOp Go.BinOp.neq 24 (Go.Operand.tmp 57) (Go.Operand.const (Go.Value.int Go.IntKind.i64 0)) 24, type := 4, pos := "law.go:22", after := #[{ on := 14, ground := Go.Ground.data }, { on := 13, ground := Go.Ground.guard }], guard := some (13, true) },
  { dst := some 59, op := Go.Op.move (Go.Operand.tmp 58), type := 4, pos := "law.go:22", after := #[{ on := 15, ground := Go.Ground.data }, { on := 13, ground := Go.Ground.chain }, { on := 13, ground := Go.Ground.guard }], guard := some (13, true) },
  { dst := some 60, op := Go.Op.move (Go.Operand.tmp 13), type := 2, pos := "law.go:22", after := #[{ on := 16, ground := Go.Ground.guard }], guard := some (16, false) },
  { dst := some 61, op := Go.Op.move (Go.Operand.tmp 16), type := 2, pos := "law.go:22", after := #[{ on := 16, ground := Go.Ground.guard }], guard := some (16, false) },
  { dst := some 62, op := Go.Op.binOp Go.BinOp.eql 2 (Go.Operand.tmp 60) (Go.Operand.tmp 61) 2, type := 4, pos := "law.go:22", after := #[{ on := 17, ground := Go.Ground.data }, { on := 18, ground := Go.Ground.data }, { on := 16, ground := Go.Ground.guard }], guard := some (16, false) },
  { dst := some 63, op := Go.Op.pick (Go.Operand.tmp 59) (Go.Operand.const (Go.Value.bool true)) (Go.Operand.tmp 62), type := 4, pos := "law.go:22", after := #[{ on := 16, ground := Go.Ground.data }, { on := 19, ground := Go.Ground.data }, { on := 13, ground := Go.Ground.guard }], guard := some (13, true) },
  { dst := some 64, op := Go.Op.pick (Go.Operand.tmp 56) (Go.Operand.tmp 63) (Go.Operand.const (Go.Value.bool false)), type := 4, pos := "law.go:22", after := #[{ on := 13, ground := Go.Ground.data }, { on := 20, ground := Go.Ground.data }], guard := none },
  { dst := some 65, op := Go.Op.move (Go.Operand.tmp 64), type := 4, pos := "law.go:22", after := #[{ on := 21, ground := Go.Ground.data }, { on := 16, ground := Go.Ground.chain }], guard := none },
  { dst := some 66, op := Go.Op.move (Go.Operand.tmp 15), type := 24, pos := "law.go:22", after := #[{ on := 22, ground := Go.Ground.guard }], guard := some (22, true) },
  { dst := some 67, op := Go.Op.binOp Go.BinOp.eql 24 (Go.Operand.tmp 66) (Go.Operand.const (Go.Value.int Go.IntKind.i64 0)) 24, type := 4, pos := "law.go:22", after := #[{ on := 23, ground := Go.Ground.data }, { on := 22, ground := Go.Ground.guard }], guard := some (22, true) },
  { dst := some 68, op := Go.Op.move (Go.Operand.tmp 67), type := 4, pos := "law.go:22", after := #[{ on := 24, ground := Go.Ground.data }, { on := 22, ground := Go.Ground.chain }, { on := 22, ground := Go.Ground.guard }], guard := some (22, true) },
  { dst := some 69, op := Go.Op.move (Go.Operand.tmp 13), type := 2, pos := "law.go:22", after := #[{ on := 25, ground := Go.Ground.guard }], guard := some (25, false) },
  { dst := some 70, op := Go.Op.binOp Go.BinOp.eql 2 (Go.Operand.tmp 69) (Go.Operand.const (Go.Value.int Go.IntKind.i64 0)) 2, type := 4, pos := "law.go:22", after := #[{ on := 26, ground := Go.Ground.data }, { on := 25, ground := Go.Ground.guard }], guard := some (25, false) },
  { dst := some 71, op := Go.Op.pick (Go.Operand.tmp 68) (Go.Operand.const (Go.Value.bool true)) (Go.Operand.tmp 70), type := 4, pos := "law.go:22", after := #[{ on := 25, ground := Go.Ground.data }, { on := 27, ground := Go.Ground.data }, { on := 22, ground := Go.Ground.guard }], guard := some (22, true) },
  { dst := some 72, op := Go.Op.pick (Go.Operand.tmp 65) (Go.Operand.tmp 71) (Go.Operand.const (Go.Value.bool false)), type := 4, pos := "law.go:22", after := #[{ on := 22, ground := Go.Ground.data }, { on := 28, ground := Go.Ground.data }], guard := none },
  { dst := some 73, op := Go.Op.move (Go.Operand.tmp 72), type := 4, pos := "law.go:22", after := #[{ on := 29, ground := Go.Ground.data }, { on := 25, ground := Go.Ground.chain }], guard := none },
  { dst := some 74, op := Go.Op.move (Go.Operand.tmp 14), type := 3, pos := "law.go:22", after := #[{ on := 30, ground := Go.Ground.guard }], guard := some (30, true) },
  { dst := some 75, op := Go.Op.move (Go.Operand.tmp 17), type := 3, pos := "law.go:22", after := #[{ on := 30, ground := Go.Ground.guard }], guard := some (30, true) },
  { dst := some 76, op := Go.Op.binOp Go.BinOp.eql 3 (Go.Operand.tmp 74) (Go.Operand.tmp 75) 3, type := 4, pos := "law.go:22", after := #[{ on := 31, ground := Go.Ground.data }, { on := 32, ground := Go.Ground.data }, { on := 30, ground := Go.Ground.guard }], guard := some (30, true) },
  { dst := some 77, op := Go.Op.pick (Go.Operand.tmp 73) (Go.Operand.tmp 76) (Go.Operand.const (Go.Value.bool false)), type := 4, pos := "law.go:22", after := #[{ on := 30, ground := Go.Ground.data }, { on := 33, ground := Go.Ground.data }], guard := none },
  { dst := some 78, op := Go.Op.move (Go.Operand.tmp 77), type := 4, pos := "law.go:22", after := #[{ on := 34, ground := Go.Ground.data }, { on := 30, ground := Go.Ground.chain }], guard := none },
  { dst := some 79, op := Go.Op.move (Go.Operand.tmp 15), type := 24, pos := "law.go:22", after := #[{ on := 35, ground := Go.Ground.guard }], guard := some (35, true) },
  { dst := some 80, op := Go.Op.move (Go.Operand.tmp 18), type := 24, pos := "law.go:22", after := #[{ on := 35, ground := Go.Ground.guard }], guard := some (35, true) },
  { dst := some 81, op := Go.Op.binOp Go.BinOp.eql 24 (Go.Operand.tmp 79) (Go.Operand.tmp 80) 24, type := 4, pos := "law.go:22", after := #[{ on := 36, ground := Go.Ground.data }, { on := 37, ground := Go.Ground.data }, { on := 35, ground := Go.Ground.guard }], guard := some (35, true) },
  { dst := some 82, op := Go.Op.pick (Go.Operand.tmp 78) (Go.Operand.tmp 81) (Go.Operand.const (Go.Value.bool false)), type := 4, pos := "law.go:22", after := #[{ on := 35, ground := Go.Ground.data }, { on := 38, ground := Go.Ground.data }], guard := none },
  { dst := some 83, op := Go.Op.move (Go.Operand.tmp 82), type := 4, pos := "law.go:22", after := #[{ on := 39, ground := Go.Ground.data }, { on := 35, ground := Go.Ground.chain }], guard := none },
  { dst := some 84, op := Go.Op.move (Go.Operand.tmp 0), type := 22, pos := "law.go:22", after := #[{ on := 40, ground := Go.Ground.guard }], guard := some (40, true) },
  { dst := some 85, op := Go.Op.move (Go.Operand.tmp 1), type := 23, pos := "law.go:22", after := #[{ on := 40, ground := Go.Ground.guard }], guard := some (40, true) },
  { dst := some 86, op := Go.Op.call { callee := Go.Callee.value (Go.Operand.func 14), args := #[Go.Operand.tmp 84, Go.Operand.tmp 85], argTypes := #[22, 23] }, type := 22, pos := "law.go:22", after := #[{ on := 41, ground := Go.Ground.data }, { on := 42, ground := Go.Ground.data }, { on := 40, ground := Go.Ground.chain }, { on := 40, ground := Go.Ground.guard }], guard := some (40, true) },
  { dst := some 87, op := Go.Op.convert 22 9 (Go.Operand.tmp 86), type := 9, pos := "law.go:22", after := #[{ on := 43, ground := Go.Ground.data }, { on := 40, ground := Go.Ground.guard }], guard := some (40, true) },
  { dst := some 88, op := Go.Op.buildSlice 22 0 #[], type := 22, pos := "law.go:22", after := #[{ on := 40, ground := Go.Ground.guard }], guard := some (40, true) },
  { dst := some 89, op := Go.Op.move (Go.Operand.tmp 0), type := 22, pos := "law.go:22", after := #[{ on := 40, ground := Go.Ground.guard }], guard := some (40, true) },
  { dst := some 90, op := Go.Op.call { callee := Go.Callee.builtin Go.Builtin.append, args := #[Go.Operand.tmp 88, Go.Operand.tmp 89], argTypes := #[22, 22] }, type := 22, pos := "law.go:22", after := #[{ on := 45, ground := Go.Ground.data }, { on := 46, ground := Go.Ground.data }, { on := 43, ground := Go.Ground.chain }, { on := 40, ground := Go.Ground.guard }], guard := some (40, true) },
  { dst := some 91, op := Go.Op.move (Go.Operand.tmp 1), type := 23, pos := "law.go:22", after := #[{ on := 40, ground := Go.Ground.guard }], guard := some (40, true) },
  { dst := some 92, op := Go.Op.call { callee := Go.Callee.value (Go.Operand.func 15), args := #[Go.Operand.tmp 90, Go.Operand.tmp 91], argTypes := #[22, 23] }, type := 22, pos := "law.go:22", after := #[{ on := 47, ground := Go.Ground.data }, { on := 48, ground := Go.Ground.data }, { on := 47, ground := Go.Ground.chain }, { on := 40, ground := Go.Ground.guard }], guard := some (40, true) },
  { dst := some 93, op := Go.Op.convert 22 9 (Go.Operand.tmp 92), type := 9, pos := "law.go:22", after := #[{ on := 49, ground := Go.Ground.data }, { on := 40, ground := Go.Ground.guard }], guard := some (40, true) },
  { dst := some 94, op := Go.Op.binOp Go.BinOp.eql 9 (Go.Operand.tmp 87) (Go.Operand.tmp 93) 9, type := 4, pos := "law.go:22", after := #[{ on := 44, ground := Go.Ground.data }, { on := 50, ground := Go.Ground.data }, { on := 40, ground := Go.Ground.guard }], guard := some (40, true) },
  { dst := some 95, op := Go.Op.pick (Go.Operand.tmp 83) (Go.Operand.tmp 94) (Go.Operand.const (Go.Value.bool false)), type := 4, pos := "law.go:22", after := #[{ on := 40, ground := Go.Ground.data }, { on := 51, ground := Go.Ground.data }], guard := none },
  { dst := some 96, op := Go.Op.move (Go.Operand.tmp 95), type := 4, pos := "law.go:22", after := #[{ on := 52, ground := Go.Ground.data }, { on := 49, ground := Go.Ground.chain }], guard := none },
  { dst := some 97, op := Go.Op.move (Go.Operand.tmp 0), type := 22, pos := "law.go:22", after := #[{ on := 53, ground := Go.Ground.guard }], guard := some (53, true) },
  { dst := some 98, op := Go.Op.move (Go.Operand.tmp 2), type := 2, pos := "law.go:22", after := #[{ on := 53, ground := Go.Ground.guard }], guard := some (53, true) },
  { dst := some 99, op := Go.Op.call { callee := Go.Callee.value (Go.Operand.func 16), args := #[Go.Operand.tmp 97, Go.Operand.tmp 98], argTypes := #[22, 2] }, type := 22, pos := "law.go:22", after := #[{ on := 54, ground := Go.Ground.data }, { on := 55, ground := Go.Ground.data }, { on := 53, ground := Go.Ground.chain }, { on := 53, ground := Go.Ground.guard }], guard := some (53, true) },
  { dst := some 100, op := Go.Op.convert 22 9 (Go.Operand.tmp 99), type := 9, pos := "law.go:22", after := #[{ on := 56, ground := Go.Ground.data }, { on := 53, ground := Go.Ground.guard }], guard := some (53, true) },
  { dst := some 101, op := Go.Op.buildSlice 22 0 #[], type := 22, pos := "law.go:22", after := #[{ on := 53, ground := Go.Ground.guard }], guard := some (53, true) },
  { dst := some 102, op := Go.Op.move (Go.Operand.tmp 0), type := 22, pos := "law.go:22", after := #[{ on := 53, ground := Go.Ground.guard }], guard := some (53, true) },
  { dst := some 103, op := Go.Op.call { callee := Go.Callee.builtin Go.Builtin.append, args := #[Go.Operand.tmp 101, Go.Operand.tmp 102], argTypes := #[22, 22] }, type := 22, pos := "law.go:22", after := #[{ on := 58, ground := Go.Ground.data }, { on := 59, ground := Go.Ground.data }, { on := 56, ground := Go.Ground.chain }, { on := 53, ground := Go.Ground.guard }], guard := some (53, true) },
  { dst := some 104, op := Go.Op.move (Go.Operand.tmp 2), type := 2, pos := "law.go:22", after := #[{ on := 53, ground := Go.Ground.guard }], guard := some (53, true) },
  { dst := some 105, op := Go.Op.call { callee := Go.Callee.value (Go.Operand.func 17), args := #[Go.Operand.tmp 103, Go.Operand.tmp 104], argTypes := #[22, 2] }, type := 22, pos := "law.go:22", after := #[{ on := 60, ground := Go.Ground.data }, { on := 61, ground := Go.Ground.data }, { on := 60, ground := Go.Ground.chain }, { on := 53, ground := Go.Ground.guard }], guard := some (53, true) },
  { dst := some 106, op := Go.Op.convert 22 9 (Go.Operand.tmp 105), type := 9, pos := "law.go:22", after := #[{ on := 62, ground := Go.Ground.data }, { on := 53, ground := Go.Ground.guard }], guard := some (53, true) },
  { dst := some 107, op := Go.Op.binOp Go.BinOp.eql 9 (Go.Operand.tmp 100) (Go.Operand.tmp 106) 9, type := 4, pos := "law.go:22", after := #[{ on := 57, ground := Go.Ground.data }, { on := 63, ground := Go.Ground.data }, { on := 53, ground := Go.Ground.guard }], guard := some (53, true) },
  { dst := some 108, op := Go.Op.pick (Go.Operand.tmp 96) (Go.Operand.tmp 107) (Go.Operand.const (Go.Value.bool false)), type := 4, pos := "law.go:22", after := #[{ on := 53, ground := Go.Ground.data }, { on := 64, ground := Go.Ground.data }], guard := none },
  { dst := some 109, op := Go.Op.move (Go.Operand.tmp 108), type := 4, pos := "law.go:22", after := #[{ on := 65, ground := Go.Ground.data }, { on := 62, ground := Go.Ground.chain }], guard := none },
  { dst := some 110, op := Go.Op.call { callee := Go.Callee.value (Go.Operand.func 18), args := #[], argTypes := #[] }, type := 4, pos := "law.go:22", after := #[{ on := 66, ground := Go.Ground.chain }, { on := 66, ground := Go.Ground.guard }], guard := some (66, true) },
  { dst := some 111, op := Go.Op.pick (Go.Operand.tmp 109) (Go.Operand.tmp 110) (Go.Operand.const (Go.Value.bool false)), type := 4, pos := "law.go:22", after := #[{ on := 66, ground := Go.Ground.data }, { on := 67, ground := Go.Ground.data }], guard := none },
  { dst := some 6, op := Go.Op.assign (Go.Operand.tmp 111), type := 4, pos := "law.go:22", after := #[{ on := 68, ground := Go.Ground.data }, { on := 67, ground := Go.Ground.chain }, { on := 0, ground := Go.Ground.phase }, { on := 1, ground := Go.Ground.phase }, { on := 2, ground := Go.Ground.phase }, { on := 3, ground := Go.Ground.phase }, { on := 4, ground := Go.Ground.phase }, { on := 5, ground := Go.Ground.phase }, { on := 6, ground := Go.Ground.phase }, { on := 7, ground := Go.Ground.phase }, { on := 8, ground := Go.Ground.phase }, { on := 9, ground := Go.Ground.phase }, { on := 10, ground := Go.Ground.phase }, { on := 11, ground := Go.Ground.phase }, { on := 12, ground := Go.Ground.phase }, { on := 13, ground := Go.Ground.phase }, { on := 14, ground := Go.Ground.phase }, { on := 15, ground := Go.Ground.phase }, { on := 16, ground := Go.Ground.phase }, { on := 17, ground := Go.Ground.phase }, { on := 18, ground := Go.Ground.phase }, { on := 19, ground := Go.Ground.phase }, { on := 20, ground := Go.Ground.phase }, { on := 21, ground := Go.Ground.phase }, { on := 22, ground := Go.Ground.phase }, { on := 23, ground := Go.Ground.phase }, { on := 24, ground := Go.Ground.phase }, { on := 25, ground := Go.Ground.phase }, { on := 26, ground := Go.Ground.phase }, { on := 27, ground := Go.Ground.phase }, { on := 28, ground := Go.Ground.phase }, { on := 29, ground := Go.Ground.phase }, { on := 30, ground := Go.Ground.phase }, { on := 31, ground := Go.Ground.phase }, { on := 32, ground := Go.Ground.phase }, { on := 33, ground := Go.Ground.phase }, { on := 34, ground := Go.Ground.phase }, { on := 35, ground := Go.Ground.phase }, { on := 36, ground := Go.Ground.phase }, { on := 37, ground := Go.Ground.phase }, { on := 38, ground := Go.Ground.phase }, { on := 39, ground := Go.Ground.phase }, { on := 40, ground := Go.Ground.phase }, { on := 41, ground := Go.Ground.phase }, { on := 42, ground := Go.Ground.phase }, { on := 43, ground := Go.Ground.phase }, { on := 44, ground := Go.Ground.phase }, { on := 45, ground := Go.Ground.phase }, { on := 46, ground := Go.Ground.phase }, { on := 47, ground := Go.Ground.phase }, { on := 48, ground := Go.Ground.phase }, { on := 49, ground := Go.Ground.phase }, { on := 50, ground := Go.Ground.phase }, { on := 51, ground := Go.Ground.phase }, { on := 52, ground := Go.Ground.phase }, { on := 53, ground := Go.Ground.phase }, { on := 54, ground := Go.Ground.phase }, { on := 55, ground := Go.Ground.phase }, { on := 56, ground := Go.Ground.phase }, { on := 57, ground := Go.Ground.phase }, { on := 58, ground := Go.Ground.phase }, { on := 59, ground := Go.Ground.phase }, { on := 60, ground := Go.Ground.phase }, { on := 61, ground := Go.Ground.phase }, { on := 62, ground := Go.Ground.phase }, { on := 63, ground := Go.Ground.phase }, { on := 64, ground := Go.Ground.phase }, { on := 65, ground := Go.Ground.phase }, { on := 66, ground := Go.Ground.phase }, { on := 67, ground := Go.Ground.phase }, { on := 68, ground := Go.Ground.phase }], guard := none }]
def wnno_F (w0 : World) (A : Option Addr) (n c : Nat) (xs : List Int) (N I : Int) : Nat → Value → World → (Nat → Prop) → Prop := fun i => match i with
  | 0 => fun v _ _ => v = .int .u64 (takeN xs).1
  | 1 => fun v _ _ => v = .int .u64 (takeN xs).1
  | 2 => fun v _ _ => v = .bool true
  | 3 => fun v _ _ => v = .bool true
  | 4 => fun v _ _ => v = .int .i64 (takeN xs).2.1
  | 5 => fun v _ _ => v = .int .i64 (takeN xs).2.1
  | 6 => fun v _ _ => v = .bool true
  | 7 => fun v _ _ => v = .bool true
  | 8 => fun v _ _ => v = .bool true
  | 9 => fun v _ _ => v = .int .i64 (takeN xs).2.2
  | 10 => fun v _ _ => v = .int .i64 (takeN xs).2.2
  | 11 => fun v _ _ => v = .bool true
  | 12 => fun v _ _ => v = .bool true
  | 13 => fun v _ _ => v = .bool true
  | 14 => fun v _ _ => v = .int .i64 (takeN xs).2.2
  | 15 => fun v _ _ => v = .bool true
  | 16 => fun v _ _ => v = .bool true
  | 17 => fun v _ _ => v = undef
  | 18 => fun v _ _ => v = undef
  | 19 => fun v _ _ => v = undef
  | 20 => fun v _ _ => v = .bool true
  | 21 => fun v _ _ => v = .bool true
  | 22 => fun v _ _ => v = .bool true
  | 23 => fun v _ _ => v = .int .i64 (takeN xs).2.2
  | 24 => fun v _ _ => v = .bool false
  | 25 => fun v _ _ => v = .bool false
  | 26 => fun v _ _ => v = .int .i64 (zag (takeN xs).1)
  | 27 => fun v _ _ => v = .bool true
  | 28 => fun v _ _ => v = .bool true
  | 29 => fun v _ _ => v = .bool true
  | 30 => fun v _ _ => v = .bool true
  | 31 => fun v _ _ => v = .int .i64 (takeN xs).2.1
  | 32 => fun v _ _ => v = .int .i64 (takeN xs).2.1
  | 33 => fun v _ _ => v = .bool true
  | 34 => fun v _ _ => v = .bool true
  | 35 => fun v _ _ => v = .bool true
  | 36 => fun v _ _ => v = .int .i64 (takeN xs).2.2
  | 37 => fun v _ _ => v = .int .i64 (takeN xs).2.2
  | 38 => fun v _ _ => v = .bool true
  | 39 => fun v _ _ => v = .bool true
  | 40 => fun v _ _ => v = .bool true
  | 41 => fun v _ _ => v = .slice A n c
  | 42 => fun v _ _ => v = .int .u64 N
  | 43 => fun v w O => OwnO w0.heap.size 5 1 (xs ++ putN N).length (nums .u8 (xs ++ putN N)) v w O
  | 44 => fun v _ _ => v = .string (strOfNums (xs ++ putN N))
  | 45 => fun v w O => OwnO w0.heap.size 5 1 ([] : List Int).length (nums .u8 []) v w O
  | 46 => fun v _ _ => v = .slice A n c
  | 47 => fun v w O => OwnO w0.heap.size 5 1 (xs).length (nums .u8 (xs)) v w O
  | 48 => fun v _ _ => v = .int .u64 N
  | 49 => fun v w O => OwnO w0.heap.size 5 1 (xs ++ putN N).length (nums .u8 (xs ++ putN N)) v w O
  | 50 => fun v _ _ => v = .string (strOfNums (xs ++ putN N))
  | 51 => fun v _ _ => v = .bool true
  | 52 => fun v _ _ => v = .bool true
  | 53 => fun v _ _ => v = .bool true
  | 54 => fun v _ _ => v = .slice A n c
  | 55 => fun v _ _ => v = .int .i64 I
  | 56 => fun v w O => OwnO w0.heap.size 5 1 (xs ++ putN (zig I)).length (nums .u8 (xs ++ putN (zig I))) v w O
  | 57 => fun v _ _ => v = .string (strOfNums (xs ++ putN (zig I)))
  | 58 => fun v w O => OwnO w0.heap.size 5 1 ([] : List Int).length (nums .u8 []) v w O
  | 59 => fun v _ _ => v = .slice A n c
  | 60 => fun v w O => OwnO w0.heap.size 5 1 (xs).length (nums .u8 (xs)) v w O
  | 61 => fun v _ _ => v = .int .i64 I
  | 62 => fun v w O => OwnO w0.heap.size 5 1 (xs ++ putN (zig I)).length (nums .u8 (xs ++ putN (zig I))) v w O
  | 63 => fun v _ _ => v = .string (strOfNums (xs ++ putN (zig I)))
  | 64 => fun v _ _ => v = .bool true
  | 65 => fun v _ _ => v = .bool true
  | 66 => fun v _ _ => v = .bool true
  | 67 => fun v _ _ => v = .bool true
  | 68 => fun v _ _ => v = .bool true
  | 69 => fun v _ _ => v = .bool true
  | _ => fun _ _ _ => True
def wnno_C : Nat → List Nat := fun i => match i with
  | 47 => [45]
  | 49 => [47]
  | 60 => [58]
  | 62 => [60]
  | _ => []
theorem wnno_nw0 : nwB wnno_ops.toArray 0 = true := by kernel_rfl
theorem wnno_nw1 : nwB wnno_ops.toArray 1 = true := by kernel_rfl
theorem wnno_nw2 : nwB wnno_ops.toArray 2 = true := by kernel_rfl
theorem wnno_nw7 : nwB wnno_ops.toArray 7 = true := by kernel_rfl
theorem wnno_nw8 : nwB wnno_ops.toArray 8 = true := by kernel_rfl
theorem wnno_nw9 : nwB wnno_ops.toArray 9 = true := by kernel_rfl
theorem wnno_nw10 : nwB wnno_ops.toArray 10 = true := by kernel_rfl
theorem wnno_nw11 : nwB wnno_ops.toArray 11 = true := by kernel_rfl
theorem wnno_nw12 : nwB wnno_ops.toArray 12 = true := by kernel_rfl
theorem wnno_nw13 : nwB wnno_ops.toArray 13 = true := by kernel_rfl
theorem wnno_nw14 : nwB wnno_ops.toArray 14 = true := by kernel_rfl
theorem wnno_nw15 : nwB wnno_ops.toArray 15 = true := by kernel_rfl
theorem wnno_nw16 : nwB wnno_ops.toArray 16 = true := by kernel_rfl
theorem wnno_nw17 : nwB wnno_ops.toArray 17 = true := by kernel_rfl
theorem wnno_nw18 : nwB wnno_ops.toArray 18 = true := by kernel_rfl
set_option maxRecDepth 100000 in
set_option maxHeartbeats 4000000 in
theorem wnno_obs (w0 : World) (A : Option Addr) (n c : Nat) (xs : List Int) (N I : Int) (hr : ReadsInt w0 .u8 A n xs) (hl : n ≤ 140737488351232) (hl2 : xs.length ≤ 140737488355000) (h0N : 0 ≤ N) (h1N : N ≤ 18446744073709551615) (h0I : -9223372036854775808 ≤ I) (h1I : I ≤ 9223372036854775807) (hE : (takeN xs).2.2 ≠ 0) (hZ : zag (takeN xs).1 = 0) (Q : Exit → Act → World → Prop) (a0 : Act) (hi0 : a0.tmps.getD 0 undef = .slice A n c) (hi1 : a0.tmps.getD 1 undef = .int .u64 N) (hi2 : a0.tmps.getD 2 undef = .int .i64 I) (hi7 : a0.tmps.getD 7 undef = .int .u64 (takeN xs).1) (hi8 : a0.tmps.getD 8 undef = .int .i64 (takeN xs).2.1) (hi9 : a0.tmps.getD 9 undef = .int .i64 (takeN xs).2.2) (hi10 : a0.tmps.getD 10 undef = .int .u64 (takeN xs).1) (hi11 : a0.tmps.getD 11 undef = .int .i64 (takeN xs).2.1) (hi12 : a0.tmps.getD 12 undef = .int .i64 (takeN xs).2.2) (hi13 : a0.tmps.getD 13 undef = .int .i64 (zag (takeN xs).1)) (hi14 : a0.tmps.getD 14 undef = .int .i64 (takeN xs).2.1) (hi15 : a0.tmps.getD 15 undef = .int .i64 (takeN xs).2.2) (hi16 : a0.tmps.getD 16 undef = .int .i64 (zag (takeN xs).1)) (hi17 : a0.tmps.getD 17 undef = .int .i64 (takeN xs).2.1) (hi18 : a0.tmps.getD 18 undef = .int .i64 (takeN xs).2.2) :
    Obs Try.prog wnno_ops.toArray Q w0.heap.size wnno_C (wnno_F w0 A n c xs N I) a0 w0 wnno_ops.toArray.toList 0 := by
  have nw0 := wnno_nw0
  have nw1 := wnno_nw1
  have nw2 := wnno_nw2
  have nw7 := wnno_nw7
  have nw8 := wnno_nw8
  have nw9 := wnno_nw9
  have nw10 := wnno_nw10
  have nw11 := wnno_nw11
  have nw12 := wnno_nw12
  have nw13 := wnno_nw13
  have nw14 := wnno_nw14
  have nw15 := wnno_nw15
  have nw16 := wnno_nw16
  have nw17 := wnno_nw17
  have nw18 := wnno_nw18
  refine ⟨?_, ?_, ?_, ?_, ?_, ?_, ?_, ?_, ?_, ?_, ?_, ?_, ?_, ?_, ?_, ?_, ?_, ?_, ?_, ?_, ?_, ?_, ?_, ?_, ?_, ?_, ?_, ?_, ?_, ?_, ?_, ?_, ?_, ?_, ?_, ?_, ?_, ?_, ?_, ?_, ?_, ?_, ?_, ?_, ?_, ?_, ?_, ?_, ?_, ?_, ?_, ?_, ?_, ?_, ?_, ?_, ?_, ?_, ?_, ?_, ?_, ?_, ?_, ?_, ?_, ?_, ?_, ?_, ?_, ?_, trivial⟩
  · refine ⟨stable_det _, ?_⟩
    intro a w O hk
    have e7 : a.tmps.getD 7 undef = .int .u64 (takeN xs).1 := (hk.init 7 (initialB_of_nw nw7)).trans hi7
    exact ob_move rfl e7 (wanted_none rfl) rfl
  · refine ⟨stable_det _, ?_⟩
    intro a w O hk
    have e10 : a.tmps.getD 10 undef = .int .u64 (takeN xs).1 := (hk.init 10 (initialB_of_nw nw10)).trans hi10
    exact ob_move rfl e10 (wanted_none rfl) rfl
  · refine ⟨stable_det _, ?_⟩
    intro a w O hk
    have e43 : a.tmps.getD 43 undef = .int .u64 (takeN xs).1 := hk.fact 0 _ 43 rfl rfl rfl rfl
    have e44 : a.tmps.getD 44 undef = .int .u64 (takeN xs).1 := hk.fact 1 _ 44 rfl rfl rfl rfl
    exact ob_eqlInt true rfl e43 e44 (by simp) (wanted_none rfl) rfl
  · refine ⟨stable_det _, ?_⟩
    intro a w O hk
    have e45 : a.tmps.getD 45 undef = .bool true := hk.fact 2 _ 45 rfl rfl rfl rfl
    exact ob_move rfl e45 (wanted_none rfl) rfl
  · refine ⟨stable_det _, ?_⟩
    intro a w O hk
    have e8 : a.tmps.getD 8 undef = .int .i64 (takeN xs).2.1 := (hk.init 8 (initialB_of_nw nw8)).trans hi8
    have e46 : a.tmps.getD 46 undef = .bool true := hk.fact 3 _ 46 rfl rfl rfl rfl
    exact ob_move rfl e8 (wanted_of rfl rfl rfl e46) rfl
  · refine ⟨stable_det _, ?_⟩
    intro a w O hk
    have e11 : a.tmps.getD 11 undef = .int .i64 (takeN xs).2.1 := (hk.init 11 (initialB_of_nw nw11)).trans hi11
    have e46 : a.tmps.getD 46 undef = .bool true := hk.fact 3 _ 46 rfl rfl rfl rfl
    exact ob_move rfl e11 (wanted_of rfl rfl rfl e46) rfl
  · refine ⟨stable_det _, ?_⟩
    intro a w O hk
    have e47 : a.tmps.getD 47 undef = .int .i64 (takeN xs).2.1 := hk.fact 4 _ 47 rfl rfl rfl rfl
    have e48 : a.tmps.getD 48 undef = .int .i64 (takeN xs).2.1 := hk.fact 5 _ 48 rfl rfl rfl rfl
    have e46 : a.tmps.getD 46 undef = .bool true := hk.fact 3 _ 46 rfl rfl rfl rfl
    exact ob_eqlInt true rfl e47 e48 (by simp) (wanted_of rfl rfl rfl e46) rfl
  · refine ⟨stable_det _, ?_⟩
    intro a w O hk
    have e46 : a.tmps.getD 46 undef = .bool true := hk.fact 3 _ 46 rfl rfl rfl rfl
    have e49 : a.tmps.getD 49 undef = .bool true := hk.fact 6 _ 49 rfl rfl rfl rfl
    exact ob_pick rfl e46 e49 (wanted_none rfl) rfl
  · refine ⟨stable_det _, ?_⟩
    intro a w O hk
    have e50 : a.tmps.getD 50 undef = .bool true := hk.fact 7 _ 50 rfl rfl rfl rfl
    exact ob_move rfl e50 (wanted_none rfl) rfl
  · refine ⟨stable_det _, ?_⟩
    intro a w O hk
    have e9 : a.tmps.getD 9 undef = .int .i64 (takeN xs).2.2 := (hk.init 9 (initialB_of_nw nw9)).trans hi9
    have e51 : a.tmps.getD 51 undef = .bool true := hk.fact 8 _ 51 rfl rfl rfl rfl
    exact ob_move rfl e9 (wanted_of rfl rfl rfl e51) rfl
  · refine ⟨stable_det _, ?_⟩
    intro a w O hk
    have e12 : a.tmps.getD 12 undef = .int .i64 (takeN xs).2.2 := (hk.init 12 (initialB_of_nw nw12)).trans hi12
    have e51 : a.tmps.getD 51 undef = .bool true := hk.fact 8 _ 51 rfl rfl rfl rfl
    exact ob_move rfl e12 (wanted_of rfl rfl rfl e51) rfl
  · refine ⟨stable_det _, ?_⟩
    intro a w O hk
    have e52 : a.tmps.getD 52 undef = .int .i64 (takeN xs).2.2 := hk.fact 9 _ 52 rfl rfl rfl rfl
    have e53 : a.tmps.getD 53 undef = .int .i64 (takeN xs).2.2 := hk.fact 10 _ 53 rfl rfl rfl rfl
    have e51 : a.tmps.getD 51 undef = .bool true := hk.fact 8 _ 51 rfl rfl rfl rfl
    exact ob_eqlInt true rfl e52 e53 (by simp) (wanted_of rfl rfl rfl e51) rfl
  · refine ⟨stable_det _, ?_⟩
    intro a w O hk
    have e51 : a.tmps.getD 51 undef = .bool true := hk.fact 8 _ 51 rfl rfl rfl rfl
    have e54 : a.tmps.getD 54 undef = .bool true := hk.fact 11 _ 54 rfl rfl rfl rfl
    exact ob_pick rfl e51 e54 (wanted_none rfl) rfl
  · refine ⟨stable_det _, ?_⟩
    intro a w O hk
    have e55 : a.tmps.getD 55 undef = .bool true := hk.fact 12 _ 55 rfl rfl rfl rfl
    exact ob_move rfl e55 (wanted_none rfl) rfl
  · refine ⟨stable_det _, ?_⟩
    intro a w O hk
    have e15 : a.tmps.getD 15 undef = .int .i64 (takeN xs).2.2 := (hk.init 15 (initialB_of_nw nw15)).trans hi15
    have e56 : a.tmps.getD 56 undef = .bool true := hk.fact 13 _ 56 rfl rfl rfl rfl
    exact ob_move rfl e15 (wanted_of rfl rfl rfl e56) rfl
  · refine ⟨stable_det _, ?_⟩
    intro a w O hk
    have e57 : a.tmps.getD 57 undef = .int .i64 (takeN xs).2.2 := hk.fact 14 _ 57 rfl rfl rfl rfl
    have e56 : a.tmps.getD 56 undef = .bool true := hk.fact 13 _ 56 rfl rfl rfl rfl
    exact ob_neqInt true rfl e57 rfl (by simp [hE]) (wanted_of rfl rfl rfl e56) rfl
  · refine ⟨stable_det _, ?_⟩
    intro a w O hk
    have e58 : a.tmps.getD 58 undef = .bool true := hk.fact 15 _ 58 rfl rfl rfl rfl
    have e56 : a.tmps.getD 56 undef = .bool true := hk.fact 13 _ 56 rfl rfl rfl rfl
    exact ob_move rfl e58 (wanted_of rfl rfl rfl e56) rfl
  · refine ⟨stable_det _, ?_⟩
    intro a w O hk
    have e13 : a.tmps.getD 13 undef = .int .i64 (zag (takeN xs).1) := (hk.init 13 (initialB_of_nw nw13)).trans hi13
    have e59 : a.tmps.getD 59 undef = .bool true := hk.fact 16 _ 59 rfl rfl rfl rfl
    exact ob_skip (unwanted_of rfl rfl rfl e59 (by decide)) rfl
  · refine ⟨stable_det _, ?_⟩
    intro a w O hk
    have e16 : a.tmps.getD 16 undef = .int .i64 (zag (takeN xs).1) := (hk.init 16 (initialB_of_nw nw16)).trans hi16
    have e59 : a.tmps.getD 59 undef = .bool true := hk.fact 16 _ 59 rfl rfl rfl rfl
    exact ob_skip (unwanted_of rfl rfl rfl e59 (by decide)) rfl
  · refine ⟨stable_det _, ?_⟩
    intro a w O hk
    have e60 : a.tmps.getD 60 undef = undef := hk.fact 17 _ 60 rfl rfl rfl rfl
    have e61 : a.tmps.getD 61 undef = undef := hk.fact 18 _ 61 rfl rfl rfl rfl
    have e59 : a.tmps.getD 59 undef = .bool true := hk.fact 16 _ 59 rfl rfl rfl rfl
    exact ob_skip (unwanted_of rfl rfl rfl e59 (by decide)) rfl
  · refine ⟨stable_det _, ?_⟩
    intro a w O hk
    have e59 : a.tmps.getD 59 undef = .bool true := hk.fact 16 _ 59 rfl rfl rfl rfl
    have e62 : a.tmps.getD 62 undef = undef := hk.fact 19 _ 62 rfl rfl rfl rfl
    have e56 : a.tmps.getD 56 undef = .bool true := hk.fact 13 _ 56 rfl rfl rfl rfl
    exact ob_pick rfl e59 rfl (wanted_of rfl rfl rfl e56) rfl
  · refine ⟨stable_det _, ?_⟩
    intro a w O hk
    have e56 : a.tmps.getD 56 undef = .bool true := hk.fact 13 _ 56 rfl rfl rfl rfl
    have e63 : a.tmps.getD 63 undef = .bool true := hk.fact 20 _ 63 rfl rfl rfl rfl
    exact ob_pick rfl e56 e63 (wanted_none rfl) rfl
  · refine ⟨stable_det _, ?_⟩
    intro a w O hk
    have e64 : a.tmps.getD 64 undef = .bool true := hk.fact 21 _ 64 rfl rfl rfl rfl
    exact ob_move rfl e64 (wanted_none rfl) rfl
  · refine ⟨stable_det _, ?_⟩
    intro a w O hk
    have e15 : a.tmps.getD 15 undef = .int .i64 (takeN xs).2.2 := (hk.init 15 (initialB_of_nw nw15)).trans hi15
    have e65 : a.tmps.getD 65 undef = .bool true := hk.fact 22 _ 65 rfl rfl rfl rfl
    exact ob_move rfl e15 (wanted_of rfl rfl rfl e65) rfl
  · refine ⟨stable_det _, ?_⟩
    intro a w O hk
    have e66 : a.tmps.getD 66 undef = .int .i64 (takeN xs).2.2 := hk.fact 23 _ 66 rfl rfl rfl rfl
    have e65 : a.tmps.getD 65 undef = .bool true := hk.fact 22 _ 65 rfl rfl rfl rfl
    exact ob_eqlInt false rfl e66 rfl (by simp [hE]) (wanted_of rfl rfl rfl e65) rfl
  · refine ⟨stable_det _, ?_⟩
    intro a w O hk
    have e67 : a.tmps.getD 67 undef = .bool false := hk.fact 24 _ 67 rfl rfl rfl rfl
    have e65 : a.tmps.getD 65 undef = .bool true := hk.fact 22 _ 65 rfl rfl rfl rfl
    exact ob_move rfl e67 (wanted_of rfl rfl rfl e65) rfl
  · refine ⟨stable_det _, ?_⟩
    intro a w O hk
    have e13 : a.tmps.getD 13 undef = .int .i64 (zag (takeN xs).1) := (hk.init 13 (initialB_of_nw nw13)).trans hi13
    have e68 : a.tmps.getD 68 undef = .bool false := hk.fact 25 _ 68 rfl rfl rfl rfl
    exact ob_move rfl e13 (wanted_of rfl rfl rfl e68) rfl
  · refine ⟨stable_det _, ?_⟩
    intro a w O hk
    have e69 : a.tmps.getD 69 undef = .int .i64 (zag (takeN xs).1) := hk.fact 26 _ 69 rfl rfl rfl rfl
    have e68 : a.tmps.getD 68 undef = .bool false := hk.fact 25 _ 68 rfl rfl rfl rfl
    exact ob_eqlInt true rfl e69 rfl (by simp [hZ]) (wanted_of rfl rfl rfl e68) rfl
  · refine ⟨stable_det _, ?_⟩
    intro a w O hk
    have e68 : a.tmps.getD 68 undef = .bool false := hk.fact 25 _ 68 rfl rfl rfl rfl
    have e70 : a.tmps.getD 70 undef = .bool true := hk.fact 27 _ 70 rfl rfl rfl rfl
    have e65 : a.tmps.getD 65 undef = .bool true := hk.fact 22 _ 65 rfl rfl rfl rfl
    exact ob_pick rfl e68 e70 (wanted_of rfl rfl rfl e65) rfl
  · refine ⟨stable_det _, ?_⟩
    intro a w O hk
    have e65 : a.tmps.getD 65 undef = .bool true := hk.fact 22 _ 65 rfl rfl rfl rfl
    have e71 : a.tmps.getD 71 undef = .bool true := hk.fact 28 _ 71 rfl rfl rfl rfl
    exact ob_pick rfl e65 e71 (wanted_none rfl) rfl
  · refine ⟨stable_det _, ?_⟩
    intro a w O hk
    have e72 : a.tmps.getD 72 undef = .bool true := hk.fact 29 _ 72 rfl rfl rfl rfl
    exact ob_move rfl e72 (wanted_none rfl) rfl
  · refine ⟨stable_det _, ?_⟩
    intro a w O hk
    have e14 : a.tmps.getD 14 undef = .int .i64 (takeN xs).2.1 := (hk.init 14 (initialB_of_nw nw14)).trans hi14
    have e73 : a.tmps.getD 73 undef = .bool true := hk.fact 30 _ 73 rfl rfl rfl rfl
    exact ob_move rfl e14 (wanted_of rfl rfl rfl e73) rfl
  · refine ⟨stable_det _, ?_⟩
    intro a w O hk
    have e17 : a.tmps.getD 17 undef = .int .i64 (takeN xs).2.1 := (hk.init 17 (initialB_of_nw nw17)).trans hi17
    have e73 : a.tmps.getD 73 undef = .bool true := hk.fact 30 _ 73 rfl rfl rfl rfl
    exact ob_move rfl e17 (wanted_of rfl rfl rfl e73) rfl
  · refine ⟨stable_det _, ?_⟩
    intro a w O hk
    have e74 : a.tmps.getD 74 undef = .int .i64 (takeN xs).2.1 := hk.fact 31 _ 74 rfl rfl rfl rfl
    have e75 : a.tmps.getD 75 undef = .int .i64 (takeN xs).2.1 := hk.fact 32 _ 75 rfl rfl rfl rfl
    have e73 : a.tmps.getD 73 undef = .bool true := hk.fact 30 _ 73 rfl rfl rfl rfl
    exact ob_eqlInt true rfl e74 e75 (by simp) (wanted_of rfl rfl rfl e73) rfl
  · refine ⟨stable_det _, ?_⟩
    intro a w O hk
    have e73 : a.tmps.getD 73 undef = .bool true := hk.fact 30 _ 73 rfl rfl rfl rfl
    have e76 : a.tmps.getD 76 undef = .bool true := hk.fact 33 _ 76 rfl rfl rfl rfl
    exact ob_pick rfl e73 e76 (wanted_none rfl) rfl
  · refine ⟨stable_det _, ?_⟩
    intro a w O hk
    have e77 : a.tmps.getD 77 undef = .bool true := hk.fact 34 _ 77 rfl rfl rfl rfl
    exact ob_move rfl e77 (wanted_none rfl) rfl
  · refine ⟨stable_det _, ?_⟩
    intro a w O hk
    have e15 : a.tmps.getD 15 undef = .int .i64 (takeN xs).2.2 := (hk.init 15 (initialB_of_nw nw15)).trans hi15
    have e78 : a.tmps.getD 78 undef = .bool true := hk.fact 35 _ 78 rfl rfl rfl rfl
    exact ob_move rfl e15 (wanted_of rfl rfl rfl e78) rfl
  · refine ⟨stable_det _, ?_⟩
    intro a w O hk
    have e18 : a.tmps.getD 18 undef = .int .i64 (takeN xs).2.2 := (hk.init 18 (initialB_of_nw nw18)).trans hi18
    have e78 : a.tmps.getD 78 undef = .bool true := hk.fact 35 _ 78 rfl rfl rfl rfl
    exact ob_move rfl e18 (wanted_of rfl rfl rfl e78) rfl
  · refine ⟨stable_det _, ?_⟩
    intro a w O hk
    have e79 : a.tmps.getD 79 undef = .int .i64 (takeN xs).2.2 := hk.fact 36 _ 79 rfl rfl rfl rfl
    have e80 : a.tmps.getD 80 undef = .int .i64 (takeN xs).2.2 := hk.fact 37 _ 80 rfl rfl rfl rfl
    have e78 : a.tmps.getD 78 undef = .bool true := hk.fact 35 _ 78 rfl rfl rfl rfl
    exact ob_eqlInt true rfl e79 e80 (by simp) (wanted_of rfl rfl rfl e78) rfl
  · refine ⟨stable_det _, ?_⟩
    intro a w O hk
    have e78 : a.tmps.getD 78 undef = .bool true := hk.fact 35 _ 78 rfl rfl rfl rfl
    have e81 : a.tmps.getD 81 undef = .bool true := hk.fact 38 _ 81 rfl rfl rfl rfl
    exact ob_pick rfl e78 e81 (wanted_none rfl) rfl
  · refine ⟨stable_det _, ?_⟩
    intro a w O hk
    have e82 : a.tmps.getD 82 undef = .bool true := hk.fact 39 _ 82 rfl rfl rfl rfl
    exact ob_move rfl e82 (wanted_none rfl) rfl
  · refine ⟨stable_det _, ?_⟩
    intro a w O hk
    have e0 : a.tmps.getD 0 undef = .slice A n c := (hk.init 0 (initialB_of_nw nw0)).trans hi0
    have e83 : a.tmps.getD 83 undef = .bool true := hk.fact 40 _ 83 rfl rfl rfl rfl
    exact ob_move rfl e0 (wanted_of rfl rfl rfl e83) rfl
  · refine ⟨stable_det _, ?_⟩
    intro a w O hk
    have e1 : a.tmps.getD 1 undef = .int .u64 N := (hk.init 1 (initialB_of_nw nw1)).trans hi1
    have e83 : a.tmps.getD 83 undef = .bool true := hk.fact 40 _ 83 rfl rfl rfl rfl
    exact ob_move rfl e1 (wanted_of rfl rfl rfl e83) rfl
  · refine ⟨stable_own _ _ _ _, ?_⟩
    intro a w O hk
    have e84 : a.tmps.getD 84 undef = .slice A n c := hk.fact 41 _ 84 rfl rfl rfl rfl
    have e85 : a.tmps.getD 85 undef = .int .u64 N := hk.fact 42 _ 85 rfl rfl rfl rfl
    have e83 : a.tmps.getD 83 undef = .bool true := hk.fact 40 _ 83 rfl rfl rfl rfl
    refine ob_callFresh #[.slice A n c, .int .u64 N] Try.func14 rfl rfl rfl (by show [a.tmps.getD 84 undef, a.tmps.getD 85 undef] = [_, _]; rw [e84, e85]) (wanted_of rfl rfl rfl e83) hk.base ?_
    exact put_calls A n c xs N w (hr.below hk.world) h0N h1N hl
  · refine ⟨stable_det _, ?_⟩
    intro a w O hk
    have f86 := hk.fact 43 _ 86 rfl rfl rfl rfl
    have g86 := hk.owns 43 rfl rfl
    have e83 : a.tmps.getD 83 undef = .bool true := hk.fact 40 _ 83 rfl rfl rfl rfl
    exact ob_convert rfl rfl (own_string Try.underlying22 Try.underlying5 Try.underlying9 f86.1) (wanted_of rfl rfl rfl e83) rfl
  · refine ⟨stable_own _ _ _ _, ?_⟩
    intro a w O hk
    have e83 : a.tmps.getD 83 undef = .bool true := hk.fact 40 _ 83 rfl rfl rfl rfl
    exact ob_empty (by simp [execOp, go_sem]) (wanted_of rfl rfl rfl e83) hk.base
  · refine ⟨stable_det _, ?_⟩
    intro a w O hk
    have e0 : a.tmps.getD 0 undef = .slice A n c := (hk.init 0 (initialB_of_nw nw0)).trans hi0
    have e83 : a.tmps.getD 83 undef = .bool true := hk.fact 40 _ 83 rfl rfl rfl rfl
    exact ob_move rfl e0 (wanted_of rfl rfl rfl e83) rfl
  · refine ⟨stable_own _ _ _ _, ?_⟩
    intro a w O hk
    have f88 := hk.fact 45 _ 88 rfl rfl rfl rfl
    have g88 := hk.owns 45 rfl rfl
    have e89 : a.tmps.getD 89 undef = .slice A n c := hk.fact 46 _ 89 rfl rfl rfl rfl
    have e83 : a.tmps.getD 83 undef = .bool true := hk.fact 40 _ 83 rfl rfl rfl rfl
    refine ob_listGrew 45 (a.tmps.getD 88 undef) (wanted_of rfl rfl rfl e83) (by simp [wnno_C]) f88.2 (fun Q' hQ => ?_)
    refine print_append_row (w0 := w) w0.heap.size rfl (.tmp 88) (.tmp 89) 22 5 .u8 1 rfl Try.underlying22 infoU8 (by decide) (a.tmps.getD 88 undef) [] xs A n c rfl e89 f88.1 (hr.below hk.world) ((Below.refl _ _).mono hk.base) hk.base (by simp; omega) ?_
    intro v1 w1 ho _ hg hat
    exact hQ v1 w1 (by simpa using ho) hg hat
  · refine ⟨stable_det _, ?_⟩
    intro a w O hk
    have e1 : a.tmps.getD 1 undef = .int .u64 N := (hk.init 1 (initialB_of_nw nw1)).trans hi1
    have e83 : a.tmps.getD 83 undef = .bool true := hk.fact 40 _ 83 rfl rfl rfl rfl
    exact ob_move rfl e1 (wanted_of rfl rfl rfl e83) rfl
  · refine ⟨stable_own _ _ _ _, ?_⟩
    intro a w O hk
    have f90 := hk.fact 47 _ 90 rfl rfl rfl rfl
    have g90 := hk.owns 47 rfl rfl
    have e91 : a.tmps.getD 91 undef = .int .u64 N := hk.fact 48 _ 91 rfl rfl rfl rfl
    have e83 : a.tmps.getD 83 undef = .bool true := hk.fact 40 _ 83 rfl rfl rfl rfl
    refine ob_callGrew 47 (a.tmps.getD 90 undef) #[a.tmps.getD 90 undef, .int .u64 N] Try.func15 rfl rfl rfl (by show [a.tmps.getD 90 undef, a.tmps.getD 91 undef] = [_, _]; rw [e91]) (wanted_of rfl rfl rfl e83) (by simp [wnno_C]) f90.2 ?_
    exact refPut_calls w0.heap.size _ xs N w f90.1 hk.base h0N h1N hl2
  · refine ⟨stable_det _, ?_⟩
    intro a w O hk
    have f92 := hk.fact 49 _ 92 rfl rfl rfl rfl
    have g92 := hk.owns 49 rfl rfl
    have e83 : a.tmps.getD 83 undef = .bool true := hk.fact 40 _ 83 rfl rfl rfl rfl
    exact ob_convert rfl rfl (own_string Try.underlying22 Try.underlying5 Try.underlying9 f92.1) (wanted_of rfl rfl rfl e83) rfl
  · refine ⟨stable_det _, ?_⟩
    intro a w O hk
    have e87 : a.tmps.getD 87 undef = .string (strOfNums (xs ++ putN N)) := hk.fact 44 _ 87 rfl rfl rfl rfl
    have e93 : a.tmps.getD 93 undef = .string (strOfNums (xs ++ putN N)) := hk.fact 50 _ 93 rfl rfl rfl rfl
    have e83 : a.tmps.getD 83 undef = .bool true := hk.fact 40 _ 83 rfl rfl rfl rfl
    exact ob_eqlStr rfl e87 e93 rfl (wanted_of rfl rfl rfl e83) rfl
  · refine ⟨stable_det _, ?_⟩
    intro a w O hk
    have e83 : a.tmps.getD 83 undef = .bool true := hk.fact 40 _ 83 rfl rfl rfl rfl
    have e94 : a.tmps.getD 94 undef = .bool true := hk.fact 51 _ 94 rfl rfl rfl rfl
    exact ob_pick rfl e83 e94 (wanted_none rfl) rfl
  · refine ⟨stable_det _, ?_⟩
    intro a w O hk
    have e95 : a.tmps.getD 95 undef = .bool true := hk.fact 52 _ 95 rfl rfl rfl rfl
    exact ob_move rfl e95 (wanted_none rfl) rfl
  · refine ⟨stable_det _, ?_⟩
    intro a w O hk
    have e0 : a.tmps.getD 0 undef = .slice A n c := (hk.init 0 (initialB_of_nw nw0)).trans hi0
    have e96 : a.tmps.getD 96 undef = .bool true := hk.fact 53 _ 96 rfl rfl rfl rfl
    exact ob_move rfl e0 (wanted_of rfl rfl rfl e96) rfl
  · refine ⟨stable_det _, ?_⟩
    intro a w O hk
    have e2 : a.tmps.getD 2 undef = .int .i64 I := (hk.init 2 (initialB_of_nw nw2)).trans hi2
    have e96 : a.tmps.getD 96 undef = .bool true := hk.fact 53 _ 96 rfl rfl rfl rfl
    exact ob_move rfl e2 (wanted_of rfl rfl rfl e96) rfl
  · refine ⟨stable_own _ _ _ _, ?_⟩
    intro a w O hk
    have e97 : a.tmps.getD 97 undef = .slice A n c := hk.fact 54 _ 97 rfl rfl rfl rfl
    have e98 : a.tmps.getD 98 undef = .int .i64 I := hk.fact 55 _ 98 rfl rfl rfl rfl
    have e96 : a.tmps.getD 96 undef = .bool true := hk.fact 53 _ 96 rfl rfl rfl rfl
    refine ob_callFresh #[.slice A n c, .int .i64 I] Try.func16 rfl rfl rfl (by show [a.tmps.getD 97 undef, a.tmps.getD 98 undef] = [_, _]; rw [e97, e98]) (wanted_of rfl rfl rfl e96) hk.base ?_
    exact putInt_calls A n c xs I w (hr.below hk.world) h0I h1I hl
  · refine ⟨stable_det _, ?_⟩
    intro a w O hk
    have f99 := hk.fact 56 _ 99 rfl rfl rfl rfl
    have g99 := hk.owns 56 rfl rfl
    have e96 : a.tmps.getD 96 undef = .bool true := hk.fact 53 _ 96 rfl rfl rfl rfl
    exact ob_convert rfl rfl (own_string Try.underlying22 Try.underlying5 Try.underlying9 f99.1) (wanted_of rfl rfl rfl e96) rfl
  · refine ⟨stable_own _ _ _ _, ?_⟩
    intro a w O hk
    have e96 : a.tmps.getD 96 undef = .bool true := hk.fact 53 _ 96 rfl rfl rfl rfl
    exact ob_empty (by simp [execOp, go_sem]) (wanted_of rfl rfl rfl e96) hk.base
  · refine ⟨stable_det _, ?_⟩
    intro a w O hk
    have e0 : a.tmps.getD 0 undef = .slice A n c := (hk.init 0 (initialB_of_nw nw0)).trans hi0
    have e96 : a.tmps.getD 96 undef = .bool true := hk.fact 53 _ 96 rfl rfl rfl rfl
    exact ob_move rfl e0 (wanted_of rfl rfl rfl e96) rfl
  · refine ⟨stable_own _ _ _ _, ?_⟩
    intro a w O hk
    have f101 := hk.fact 58 _ 101 rfl rfl rfl rfl
    have g101 := hk.owns 58 rfl rfl
    have e102 : a.tmps.getD 102 undef = .slice A n c := hk.fact 59 _ 102 rfl rfl rfl rfl
    have e96 : a.tmps.getD 96 undef = .bool true := hk.fact 53 _ 96 rfl rfl rfl rfl
    refine ob_listGrew 58 (a.tmps.getD 101 undef) (wanted_of rfl rfl rfl e96) (by simp [wnno_C]) f101.2 (fun Q' hQ => ?_)
    refine print_append_row (w0 := w) w0.heap.size rfl (.tmp 101) (.tmp 102) 22 5 .u8 1 rfl Try.underlying22 infoU8 (by decide) (a.tmps.getD 101 undef) [] xs A n c rfl e102 f101.1 (hr.below hk.world) ((Below.refl _ _).mono hk.base) hk.base (by simp; omega) ?_
    intro v1 w1 ho _ hg hat
    exact hQ v1 w1 (by simpa using ho) hg hat
  · refine ⟨stable_det _, ?_⟩
    intro a w O hk
    have e2 : a.tmps.getD 2 undef = .int .i64 I := (hk.init 2 (initialB_of_nw nw2)).trans hi2
    have e96 : a.tmps.getD 96 undef = .bool true := hk.fact 53 _ 96 rfl rfl rfl rfl
    exact ob_move rfl e2 (wanted_of rfl rfl rfl e96) rfl
  · refine ⟨stable_own _ _ _ _, ?_⟩
    intro a w O hk
    have f103 := hk.fact 60 _ 103 rfl rfl rfl rfl
    have g103 := hk.owns 60 rfl rfl
    have e104 : a.tmps.getD 104 undef = .int .i64 I := hk.fact 61 _ 104 rfl rfl rfl rfl
    have e96 : a.tmps.getD 96 undef = .bool true := hk.fact 53 _ 96 rfl rfl rfl rfl
    refine ob_callGrew 60 (a.tmps.getD 103 undef) #[a.tmps.getD 103 undef, .int .i64 I] Try.func17 rfl rfl rfl (by show [a.tmps.getD 103 undef, a.tmps.getD 104 undef] = [_, _]; rw [e104]) (wanted_of rfl rfl rfl e96) (by simp [wnno_C]) f103.2 ?_
    exact refPutInt_calls w0.heap.size _ xs I w f103.1 hk.base h0I h1I hl2
  · refine ⟨stable_det _, ?_⟩
    intro a w O hk
    have f105 := hk.fact 62 _ 105 rfl rfl rfl rfl
    have g105 := hk.owns 62 rfl rfl
    have e96 : a.tmps.getD 96 undef = .bool true := hk.fact 53 _ 96 rfl rfl rfl rfl
    exact ob_convert rfl rfl (own_string Try.underlying22 Try.underlying5 Try.underlying9 f105.1) (wanted_of rfl rfl rfl e96) rfl
  · refine ⟨stable_det _, ?_⟩
    intro a w O hk
    have e100 : a.tmps.getD 100 undef = .string (strOfNums (xs ++ putN (zig I))) := hk.fact 57 _ 100 rfl rfl rfl rfl
    have e106 : a.tmps.getD 106 undef = .string (strOfNums (xs ++ putN (zig I))) := hk.fact 63 _ 106 rfl rfl rfl rfl
    have e96 : a.tmps.getD 96 undef = .bool true := hk.fact 53 _ 96 rfl rfl rfl rfl
    exact ob_eqlStr rfl e100 e106 rfl (wanted_of rfl rfl rfl e96) rfl
  · refine ⟨stable_det _, ?_⟩
    intro a w O hk
    have e96 : a.tmps.getD 96 undef = .bool true := hk.fact 53 _ 96 rfl rfl rfl rfl
    have e107 : a.tmps.getD 107 undef = .bool true := hk.fact 64 _ 107 rfl rfl rfl rfl
    exact ob_pick rfl e96 e107 (wanted_none rfl) rfl
  · refine ⟨stable_det _, ?_⟩
    intro a w O hk
    have e108 : a.tmps.getD 108 undef = .bool true := hk.fact 65 _ 108 rfl rfl rfl rfl
    exact ob_move rfl e108 (wanted_none rfl) rfl
  · refine ⟨stable_det _, ?_⟩
    intro a w O hk
    have e109 : a.tmps.getD 109 undef = .bool true := hk.fact 66 _ 109 rfl rfl rfl rfl
    refine ob_call #[] Try.func18 rfl rfl rfl rfl (wanted_of rfl rfl rfl e109) ((awake_calls w).mono ?_)
    rintro e w' ⟨rfl, hb⟩
    exact ⟨_, fun _ => False, rfl, rfl, Chg.of_below hb, fun _ h => h.elim⟩
  · refine ⟨stable_det _, ?_⟩
    intro a w O hk
    have e109 : a.tmps.getD 109 undef = .bool true := hk.fact 66 _ 109 rfl rfl rfl rfl
    have e110 : a.tmps.getD 110 undef = .bool true := hk.fact 67 _ 110 rfl rfl rfl rfl
    exact ob_pick rfl e109 e110 (wanted_none rfl) rfl
  · refine ⟨stable_det _, ?_⟩
    intro a w O hk
    have e111 : a.tmps.getD 111 undef = .bool true := hk.fact 68 _ 111 rfl rfl rfl rfl
    exact ob_assign rfl e111 (wanted_none rfl) rfl

end Go.Proofs.Ytcgmfbefikpkbaa
