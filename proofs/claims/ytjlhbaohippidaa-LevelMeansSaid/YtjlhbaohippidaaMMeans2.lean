/-
  Merged: MeR2, MeansP, Bx, LawMe, LvIn.
-/
import Derived.Deep.Slices
import Derived.ChangeArms
import Derived.Test.YtjlhbaohippidaaMMeans1
/-! MeR2 -/
namespace Go.Proofs.Ytjlhbaohippidaa
open Go.RowKit Go.Proofs.YtjlhbaohippidaaW.PrintWords Go.RegionInvYtjlhbaohippidaa Go.RegionEYtjlhbaohippidaa
set_option linter.unusedVariables false

def ma111_ops : List Oper := [
  { dst := some 73, op := Go.Op.load 24 (Go.Operand.tmp 3), type := 24, pos := "law.go:90", after := #[], guard := none },
  { dst := some 74, op := Go.Op.load 24 (Go.Operand.tmp 4), type := 24, pos := "law.go:90", after := #[], guard := none },
  { dst := some 75, op := Go.Op.call { callee := Go.Callee.value (Go.Operand.func 21), args := #[Go.Operand.tmp 73, Go.Operand.tmp 74], argTypes := #[24, 24] }, type := 4, pos := "law.go:90", after := #[{ on := 0, ground := Go.Ground.data }, { on := 1, ground := Go.Ground.data }], guard := none },
  { dst := some 76, op := Go.Op.move (Go.Operand.tmp 75), type := 4, pos := "law.go:90", after := #[{ on := 2, ground := Go.Ground.data }, { on := 2, ground := Go.Ground.chain }], guard := none },
  { dst := some 77, op := Go.Op.move (Go.Operand.tmp 9), type := 3, pos := "law.go:90", after := #[{ on := 3, ground := Go.Ground.guard }], guard := some (3, true) },
  { dst := some 78, op := Go.Op.move (Go.Operand.tmp 10), type := 3, pos := "law.go:90", after := #[{ on := 3, ground := Go.Ground.guard }], guard := some (3, true) },
  { dst := some 79, op := Go.Op.binOp Go.BinOp.gtr 3 (Go.Operand.tmp 77) (Go.Operand.tmp 78) 3, type := 4, pos := "law.go:90", after := #[{ on := 4, ground := Go.Ground.data }, { on := 5, ground := Go.Ground.data }, { on := 3, ground := Go.Ground.guard }], guard := some (3, true) },
  { dst := some 80, op := Go.Op.pick (Go.Operand.tmp 76) (Go.Operand.tmp 79) (Go.Operand.const (Go.Value.bool false)), type := 4, pos := "law.go:90", after := #[{ on := 3, ground := Go.Ground.data }, { on := 6, ground := Go.Ground.data }], guard := none },
  { dst := some 81, op := Go.Op.move (Go.Operand.tmp 80), type := 4, pos := "law.go:90", after := #[{ on := 7, ground := Go.Ground.data }, { on := 3, ground := Go.Ground.chain }], guard := none },
  { dst := some 82, op := Go.Op.load 24 (Go.Operand.tmp 3), type := 24, pos := "law.go:90", after := #[{ on := 8, ground := Go.Ground.guard }], guard := some (8, false) },
  { dst := some 83, op := Go.Op.load 24 (Go.Operand.tmp 4), type := 24, pos := "law.go:90", after := #[{ on := 8, ground := Go.Ground.guard }], guard := some (8, false) },
  { dst := some 84, op := Go.Op.call { callee := Go.Callee.value (Go.Operand.func 18), args := #[Go.Operand.tmp 82, Go.Operand.tmp 83], argTypes := #[24, 24] }, type := 4, pos := "law.go:90", after := #[{ on := 9, ground := Go.Ground.data }, { on := 10, ground := Go.Ground.data }, { on := 8, ground := Go.Ground.chain }, { on := 8, ground := Go.Ground.guard }], guard := some (8, false) },
  { dst := some 85, op := Go.Op.move (Go.Operand.tmp 84), type := 4, pos := "law.go:90", after := #[{ on := 11, ground := Go.Ground.data }, { on := 11, ground := Go.Ground.chain }, { on := 8, ground := Go.Ground.guard }], guard := some (8, false) },
  { dst := some 86, op := Go.Op.move (Go.Operand.tmp 9), type := 3, pos := "law.go:90", after := #[{ on := 12, ground := Go.Ground.guard }], guard := some (12, true) },
  { dst := some 87, op := Go.Op.move (Go.Operand.tmp 10), type := 3, pos := "law.go:90", after := #[{ on := 12, ground := Go.Ground.guard }], guard := some (12, true) },
  { dst := some 88, op := Go.Op.binOp Go.BinOp.neq 3 (Go.Operand.tmp 86) (Go.Operand.tmp 87) 3, type := 4, pos := "law.go:90", after := #[{ on := 13, ground := Go.Ground.data }, { on := 14, ground := Go.Ground.data }, { on := 12, ground := Go.Ground.guard }], guard := some (12, true) },
  { dst := some 89, op := Go.Op.pick (Go.Operand.tmp 85) (Go.Operand.tmp 88) (Go.Operand.const (Go.Value.bool false)), type := 4, pos := "law.go:90", after := #[{ on := 12, ground := Go.Ground.data }, { on := 15, ground := Go.Ground.data }, { on := 8, ground := Go.Ground.guard }], guard := some (8, false) },
  { dst := some 90, op := Go.Op.pick (Go.Operand.tmp 81) (Go.Operand.const (Go.Value.bool true)) (Go.Operand.tmp 89), type := 4, pos := "law.go:90", after := #[{ on := 8, ground := Go.Ground.data }, { on := 16, ground := Go.Ground.data }], guard := none },
  { dst := some 91, op := Go.Op.move (Go.Operand.tmp 90), type := 4, pos := "law.go:90", after := #[{ on := 17, ground := Go.Ground.data }, { on := 12, ground := Go.Ground.chain }], guard := none },
  { dst := some 92, op := Go.Op.load 24 (Go.Operand.tmp 11), type := 24, pos := "law.go:90", after := #[{ on := 18, ground := Go.Ground.guard }], guard := some (18, false) },
  { dst := some 93, op := Go.Op.call { callee := Go.Callee.value (Go.Operand.func 16), args := #[Go.Operand.tmp 92], argTypes := #[24] }, type := 4, pos := "law.go:90", after := #[{ on := 19, ground := Go.Ground.data }, { on := 18, ground := Go.Ground.chain }, { on := 18, ground := Go.Ground.guard }], guard := some (18, false) },
  { dst := some 94, op := Go.Op.move (Go.Operand.tmp 93), type := 4, pos := "law.go:90", after := #[{ on := 20, ground := Go.Ground.data }, { on := 20, ground := Go.Ground.chain }, { on := 18, ground := Go.Ground.guard }], guard := some (18, false) },
  { dst := some 95, op := Go.Op.load 24 (Go.Operand.tmp 11), type := 24, pos := "law.go:90", after := #[{ on := 21, ground := Go.Ground.guard }], guard := some (21, true) },
  { dst := some 96, op := Go.Op.move (Go.Operand.tmp 2), type := 29, pos := "law.go:90", after := #[{ on := 21, ground := Go.Ground.guard }], guard := some (21, true) },
  { dst := some 97, op := Go.Op.call { callee := Go.Callee.value (Go.Operand.func 14), args := #[Go.Operand.tmp 95, Go.Operand.tmp 96], argTypes := #[24, 29] }, type := 3, pos := "law.go:90", after := #[{ on := 22, ground := Go.Ground.data }, { on := 23, ground := Go.Ground.data }, { on := 21, ground := Go.Ground.chain }, { on := 21, ground := Go.Ground.guard }], guard := some (21, true) },
  { dst := some 98, op := Go.Op.move (Go.Operand.tmp 9), type := 3, pos := "law.go:90", after := #[{ on := 21, ground := Go.Ground.guard }], guard := some (21, true) },
  { dst := some 99, op := Go.Op.binOp Go.BinOp.neq 3 (Go.Operand.tmp 97) (Go.Operand.tmp 98) 3, type := 4, pos := "law.go:90", after := #[{ on := 24, ground := Go.Ground.data }, { on := 25, ground := Go.Ground.data }, { on := 21, ground := Go.Ground.guard }], guard := some (21, true) },
  { dst := some 100, op := Go.Op.pick (Go.Operand.tmp 94) (Go.Operand.tmp 99) (Go.Operand.const (Go.Value.bool false)), type := 4, pos := "law.go:90", after := #[{ on := 21, ground := Go.Ground.data }, { on := 26, ground := Go.Ground.data }, { on := 18, ground := Go.Ground.guard }], guard := some (18, false) },
  { dst := some 101, op := Go.Op.pick (Go.Operand.tmp 91) (Go.Operand.const (Go.Value.bool true)) (Go.Operand.tmp 100), type := 4, pos := "law.go:90", after := #[{ on := 18, ground := Go.Ground.data }, { on := 27, ground := Go.Ground.data }], guard := none }]
def ma111_F (w0 : World) (b p : Nat) (Aa Ab Ar Av : Option Addr) (ca cb cr nv cv : Nat) (la lb lr : Lv) (vs : List Int) (x y : Int) : Nat → (Nat → Value) → Value → World → (Nat → Prop) → Prop := fun rix => match rix with
  | 0 => fun _ v _ _ => v = lvV Aa ca la
  | 1 => fun _ v _ _ => v = lvV Ab cb lb
  | 2 => fun _ v _ _ => v = .bool true
  | 3 => fun _ v _ _ => v = .bool true
  | 4 => fun _ v _ _ => v = .int .i64 x
  | 5 => fun _ v _ _ => v = .int .i64 y
  | 6 => fun _ v _ _ => v = .bool false
  | 7 => fun _ v _ _ => v = .bool false
  | 8 => fun _ v _ _ => v = .bool false
  | 9 => fun _ v _ _ => v = lvV Aa ca la
  | 10 => fun _ v _ _ => v = lvV Ab cb lb
  | 11 => fun _ v _ _ => v = .bool true
  | 12 => fun _ v _ _ => v = .bool true
  | 13 => fun _ v _ _ => v = .int .i64 x
  | 14 => fun _ v _ _ => v = .int .i64 y
  | 15 => fun _ v _ _ => v = .bool false
  | 16 => fun _ v _ _ => v = .bool false
  | 17 => fun _ v _ _ => v = .bool false
  | 18 => fun _ v _ _ => v = .bool false
  | 19 => fun _ v _ _ => v = lvV Ar cr lr
  | 20 => fun _ v _ _ => v = .bool true
  | 21 => fun _ v _ _ => v = .bool true
  | 22 => fun _ v _ _ => v = lvV Ar cr lr
  | 23 => fun _ v _ _ => v = .slice Av nv cv
  | 24 => fun _ v _ _ => v = .int .i64 (valB vs lr)
  | 25 => fun _ v _ _ => v = .int .i64 x
  | 26 => fun _ v _ _ => v = .bool false
  | 27 => fun _ v _ _ => v = .bool false
  | 28 => fun _ v _ _ => v = .bool false
  | _ => fun _ _ _ _ => True
def ma111_C : Nat → List Nat := fun rix => match rix with
  | _ => []
theorem ma111_nw2 : nwB ma111_ops.toArray 2 = true := by kernel_rfl
theorem ma111_nw3 : nwB ma111_ops.toArray 3 = true := by kernel_rfl
theorem ma111_nw4 : nwB ma111_ops.toArray 4 = true := by kernel_rfl
theorem ma111_nw9 : nwB ma111_ops.toArray 9 = true := by kernel_rfl
theorem ma111_nw10 : nwB ma111_ops.toArray 10 = true := by kernel_rfl
theorem ma111_nw11 : nwB ma111_ops.toArray 11 = true := by kernel_rfl
set_option maxRecDepth 100000 in
set_option maxHeartbeats 8000000 in
theorem ma111_obs (w0 : World) (b p : Nat) (Aa Ab Ar Av : Option Addr) (ca cb cr nv cv : Nat) (la lb lr : Lv) (vs : List Int) (x y : Int) (hxa : w0.heap[b]? = some (.cells #[.int .i64 la.kind, .int .i64 la.num, .slice Aa la.kids.length ca] 24 (0, 0))) (hina : LvS w0 (fun k => k < w0.heap.size) Aa ca la) (hxb : w0.heap[b + 1]? = some (.cells #[.int .i64 lb.kind, .int .i64 lb.num, .slice Ab lb.kids.length cb] 24 (0, 0))) (hinb : LvS w0 (fun k => k < w0.heap.size) Ab cb lb) (hxr : w0.heap[p]? = some (.cells #[.int .i64 lr.kind, .int .i64 lr.num, .slice Ar lr.kids.length cr] 24 (0, 0))) (hinr : LvS w0 (fun k => k < w0.heap.size) Ar cr lr) (hv : ReadsInt w0 .i64 Av nv vs) (hlq : leqP la lb = true) (hxy : decide (y < x) = false) (heq : eqP la lb = true) (hxe : x = y) (hsr : soundB lr = true) (hrx : valB vs lr = x) (Q : Exit → Act → World → Prop) (a0 : Act) (hi2 : a0.tmps.getD 2 undef = .slice Av nv cv) (hi3 : a0.tmps.getD 3 undef = .pointer (some ⟨b, 0, none⟩)) (hi4 : a0.tmps.getD 4 undef = .pointer (some ⟨b + 1, 0, none⟩)) (hi9 : a0.tmps.getD 9 undef = .int .i64 x) (hi10 : a0.tmps.getD 10 undef = .int .i64 y) (hi11 : a0.tmps.getD 11 undef = .pointer (some ⟨p, 0, none⟩)) :
    ObsE Try.prog ma111_ops.toArray Q (est2 0 0 (fun _ => False) (fun _ => False)) ma111_C (ma111_F w0 b p Aa Ab Ar Av ca cb cr nv cv la lb lr vs x y) a0 w0 ma111_ops.toArray.toList 0 := by
  have nw2 := ma111_nw2
  have nw3 := ma111_nw3
  have nw4 := ma111_nw4
  have nw9 := ma111_nw9
  have nw10 := ma111_nw10
  have nw11 := ma111_nw11
  refine ⟨?_, ?_, ?_, ?_, ?_, ?_, ?_, ?_, ?_, ?_, ?_, ?_, ?_, ?_, ?_, ?_, ?_, ?_, ?_, ?_, ?_, ?_, ?_, ?_, ?_, ?_, ?_, ?_, ?_, trivial⟩
  · refine ⟨⟨fun τ => stableE_det _, leans_not⟩, ?_⟩
    intro a w O hk
    have e3 : a.eval (.tmp 3) = .pointer (some ⟨b, 0, none⟩) := (hk.init 3 (initialB_of_nw nw3)).trans hi3
    have x3 := hk.world.still hxa (fun ⟨_, h⟩ => h.elim And.right And.right)
    exact obE_loadRow rfl e3 x3 Try.underlying24 rfl (by kernel_rfl) (wanted_none rfl) rfl
  · refine ⟨⟨fun τ => stableE_det _, leans_not⟩, ?_⟩
    intro a w O hk
    have e4 : a.eval (.tmp 4) = .pointer (some ⟨b + 1, 0, none⟩) := (hk.init 4 (initialB_of_nw nw4)).trans hi4
    have x4 := hk.world.still hxb (fun ⟨_, h⟩ => h.elim And.right And.right)
    exact obE_loadRow rfl e4 x4 Try.underlying24 rfl (by kernel_rfl) (wanted_none rfl) rfl
  · refine ⟨⟨fun τ => stableE_det _, leans_not⟩, ?_⟩
    intro a w O hk
    have e73 : a.eval (.tmp 73) = lvV Aa ca la := hk.fact 0 _ 73 rfl rfl rfl rfl
    have e74 : a.eval (.tmp 74) = lvV Ab cb lb := hk.fact 1 _ 74 rfl rfl rfl rfl
    exact obE_lvLeq rfl (wanted_none rfl) (show LvV (fun k => k < w0.heap.size) la (a.eval (.tmp 73)) w (fun _ => False) by rw [e73]; exact LvV.old hina (fun k hk' => est2_fix hk' (fun h => h) (fun h => h)) hk.fix) (show LvV (fun k => k < w0.heap.size) lb (a.eval (.tmp 74)) w (fun _ => False) by rw [e74]; exact LvV.old hinb (fun k hk' => est2_fix hk' (fun h => h) (fun h => h)) hk.fix) hlq
  · refine ⟨⟨fun τ => stableE_det _, leans_not⟩, ?_⟩
    intro a w O hk
    have e75 : a.eval (.tmp 75) = .bool true := hk.fact 2 _ 75 rfl rfl rfl rfl
    exact toE (ob_move rfl e75 (wanted_none rfl) rfl)
  · refine ⟨⟨fun τ => stableE_det _, leans_not⟩, ?_⟩
    intro a w O hk
    have e9 : a.eval (.tmp 9) = .int .i64 x := (hk.init 9 (initialB_of_nw nw9)).trans hi9
    have e76 : a.eval (.tmp 76) = .bool true := hk.fact 3 _ 76 rfl rfl rfl rfl
    exact toE (ob_move rfl e9 (wanted_of rfl rfl rfl e76) rfl)
  · refine ⟨⟨fun τ => stableE_det _, leans_not⟩, ?_⟩
    intro a w O hk
    have e10 : a.eval (.tmp 10) = .int .i64 y := (hk.init 10 (initialB_of_nw nw10)).trans hi10
    have e76 : a.eval (.tmp 76) = .bool true := hk.fact 3 _ 76 rfl rfl rfl rfl
    exact toE (ob_move rfl e10 (wanted_of rfl rfl rfl e76) rfl)
  · refine ⟨⟨fun τ => stableE_det _, leans_not⟩, ?_⟩
    intro a w O hk
    have e77 : a.eval (.tmp 77) = .int .i64 x := hk.fact 4 _ 77 rfl rfl rfl rfl
    have e78 : a.eval (.tmp 78) = .int .i64 y := hk.fact 5 _ 78 rfl rfl rfl rfl
    have e76 : a.eval (.tmp 76) = .bool true := hk.fact 3 _ 76 rfl rfl rfl rfl
    exact toE (ob_bin rfl e77 e78 (run_gtrB _ _ false hxy) (by decide) (wanted_of rfl rfl rfl e76) rfl)
  · refine ⟨⟨fun τ => stableE_det _, leans_not⟩, ?_⟩
    intro a w O hk
    have e76 : a.eval (.tmp 76) = .bool true := hk.fact 3 _ 76 rfl rfl rfl rfl
    have e79 : a.eval (.tmp 79) = .bool false := hk.fact 6 _ 79 rfl rfl rfl rfl
    exact toE (ob_pick rfl e76 e79 (wanted_none rfl) rfl)
  · refine ⟨⟨fun τ => stableE_det _, leans_not⟩, ?_⟩
    intro a w O hk
    have e80 : a.eval (.tmp 80) = .bool false := hk.fact 7 _ 80 rfl rfl rfl rfl
    exact toE (ob_move rfl e80 (wanted_none rfl) rfl)
  · refine ⟨⟨fun τ => stableE_det _, leans_not⟩, ?_⟩
    intro a w O hk
    have e3 : a.eval (.tmp 3) = .pointer (some ⟨b, 0, none⟩) := (hk.init 3 (initialB_of_nw nw3)).trans hi3
    have e81 : a.eval (.tmp 81) = .bool false := hk.fact 8 _ 81 rfl rfl rfl rfl
    have x3 := hk.world.still hxa (fun ⟨_, h⟩ => h.elim And.right And.right)
    exact obE_loadRow rfl e3 x3 Try.underlying24 rfl (by kernel_rfl) (wanted_of rfl rfl rfl e81) rfl
  · refine ⟨⟨fun τ => stableE_det _, leans_not⟩, ?_⟩
    intro a w O hk
    have e4 : a.eval (.tmp 4) = .pointer (some ⟨b + 1, 0, none⟩) := (hk.init 4 (initialB_of_nw nw4)).trans hi4
    have e81 : a.eval (.tmp 81) = .bool false := hk.fact 8 _ 81 rfl rfl rfl rfl
    have x4 := hk.world.still hxb (fun ⟨_, h⟩ => h.elim And.right And.right)
    exact obE_loadRow rfl e4 x4 Try.underlying24 rfl (by kernel_rfl) (wanted_of rfl rfl rfl e81) rfl
  · refine ⟨⟨fun τ => stableE_det _, leans_not⟩, ?_⟩
    intro a w O hk
    have e82 : a.eval (.tmp 82) = lvV Aa ca la := hk.fact 9 _ 82 rfl rfl rfl rfl
    have e83 : a.eval (.tmp 83) = lvV Ab cb lb := hk.fact 10 _ 83 rfl rfl rfl rfl
    have e81 : a.eval (.tmp 81) = .bool false := hk.fact 8 _ 81 rfl rfl rfl rfl
    exact obE_lvEqual rfl (wanted_of rfl rfl rfl e81) (show LvV (fun k => k < w0.heap.size) la (a.eval (.tmp 82)) w (fun _ => False) by rw [e82]; exact LvV.old hina (fun k hk' => est2_fix hk' (fun h => h) (fun h => h)) hk.fix) (show LvV (fun k => k < w0.heap.size) lb (a.eval (.tmp 83)) w (fun _ => False) by rw [e83]; exact LvV.old hinb (fun k hk' => est2_fix hk' (fun h => h) (fun h => h)) hk.fix) heq
  · refine ⟨⟨fun τ => stableE_det _, leans_not⟩, ?_⟩
    intro a w O hk
    have e84 : a.eval (.tmp 84) = .bool true := hk.fact 11 _ 84 rfl rfl rfl rfl
    have e81 : a.eval (.tmp 81) = .bool false := hk.fact 8 _ 81 rfl rfl rfl rfl
    exact toE (ob_move rfl e84 (wanted_of rfl rfl rfl e81) rfl)
  · refine ⟨⟨fun τ => stableE_det _, leans_not⟩, ?_⟩
    intro a w O hk
    have e9 : a.eval (.tmp 9) = .int .i64 x := (hk.init 9 (initialB_of_nw nw9)).trans hi9
    have e85 : a.eval (.tmp 85) = .bool true := hk.fact 12 _ 85 rfl rfl rfl rfl
    exact toE (ob_move rfl e9 (wanted_of rfl rfl rfl e85) rfl)
  · refine ⟨⟨fun τ => stableE_det _, leans_not⟩, ?_⟩
    intro a w O hk
    have e10 : a.eval (.tmp 10) = .int .i64 y := (hk.init 10 (initialB_of_nw nw10)).trans hi10
    have e85 : a.eval (.tmp 85) = .bool true := hk.fact 12 _ 85 rfl rfl rfl rfl
    exact toE (ob_move rfl e10 (wanted_of rfl rfl rfl e85) rfl)
  · refine ⟨⟨fun τ => stableE_det _, leans_not⟩, ?_⟩
    intro a w O hk
    have e86 : a.eval (.tmp 86) = .int .i64 x := hk.fact 13 _ 86 rfl rfl rfl rfl
    have e87 : a.eval (.tmp 87) = .int .i64 y := hk.fact 14 _ 87 rfl rfl rfl rfl
    have e85 : a.eval (.tmp 85) = .bool true := hk.fact 12 _ 85 rfl rfl rfl rfl
    exact toE (ob_neqInt false rfl e86 e87 (by simpa using hxe) (wanted_of rfl rfl rfl e85) rfl)
  · refine ⟨⟨fun τ => stableE_det _, leans_not⟩, ?_⟩
    intro a w O hk
    have e85 : a.eval (.tmp 85) = .bool true := hk.fact 12 _ 85 rfl rfl rfl rfl
    have e88 : a.eval (.tmp 88) = .bool false := hk.fact 15 _ 88 rfl rfl rfl rfl
    have e81 : a.eval (.tmp 81) = .bool false := hk.fact 8 _ 81 rfl rfl rfl rfl
    exact toE (ob_pick rfl e85 e88 (wanted_of rfl rfl rfl e81) rfl)
  · refine ⟨⟨fun τ => stableE_det _, leans_not⟩, ?_⟩
    intro a w O hk
    have e81 : a.eval (.tmp 81) = .bool false := hk.fact 8 _ 81 rfl rfl rfl rfl
    have e89 : a.eval (.tmp 89) = .bool false := hk.fact 16 _ 89 rfl rfl rfl rfl
    exact toE (ob_pick rfl e81 e89 (wanted_none rfl) rfl)
  · refine ⟨⟨fun τ => stableE_det _, leans_not⟩, ?_⟩
    intro a w O hk
    have e90 : a.eval (.tmp 90) = .bool false := hk.fact 17 _ 90 rfl rfl rfl rfl
    exact toE (ob_move rfl e90 (wanted_none rfl) rfl)
  · refine ⟨⟨fun τ => stableE_det _, leans_not⟩, ?_⟩
    intro a w O hk
    have e11 : a.eval (.tmp 11) = .pointer (some ⟨p, 0, none⟩) := (hk.init 11 (initialB_of_nw nw11)).trans hi11
    have e91 : a.eval (.tmp 91) = .bool false := hk.fact 18 _ 91 rfl rfl rfl rfl
    have x11 := hk.world.still hxr (fun ⟨_, h⟩ => h.elim And.right And.right)
    exact obE_loadRow rfl e11 x11 Try.underlying24 rfl (by kernel_rfl) (wanted_of rfl rfl rfl e91) rfl
  · refine ⟨⟨fun τ => stableE_det _, leans_not⟩, ?_⟩
    intro a w O hk
    have e92 : a.eval (.tmp 92) = lvV Ar cr lr := hk.fact 19 _ 92 rfl rfl rfl rfl
    have e91 : a.eval (.tmp 91) = .bool false := hk.fact 18 _ 91 rfl rfl rfl rfl
    exact obE_callV #[lvV Ar cr lr] rfl rfl rfl rfl (by simp only [List.map_cons, List.map_nil]; rw [e92]) (wanted_of rfl rfl rfl e91) (by have h := refSound_calls Ar cr lr w (LvS.all (LvS.same hinr (fun k hk' _ => hk.fix k ((fun k hk' => est2_fix hk' (fun h => h) (fun h => h)) k hk')))); rwa [hsr] at h)
  · refine ⟨⟨fun τ => stableE_det _, leans_not⟩, ?_⟩
    intro a w O hk
    have e93 : a.eval (.tmp 93) = .bool true := hk.fact 20 _ 93 rfl rfl rfl rfl
    have e91 : a.eval (.tmp 91) = .bool false := hk.fact 18 _ 91 rfl rfl rfl rfl
    exact toE (ob_move rfl e93 (wanted_of rfl rfl rfl e91) rfl)
  · refine ⟨⟨fun τ => stableE_det _, leans_not⟩, ?_⟩
    intro a w O hk
    have e11 : a.eval (.tmp 11) = .pointer (some ⟨p, 0, none⟩) := (hk.init 11 (initialB_of_nw nw11)).trans hi11
    have e94 : a.eval (.tmp 94) = .bool true := hk.fact 21 _ 94 rfl rfl rfl rfl
    have x11 := hk.world.still hxr (fun ⟨_, h⟩ => h.elim And.right And.right)
    exact obE_loadRow rfl e11 x11 Try.underlying24 rfl (by kernel_rfl) (wanted_of rfl rfl rfl e94) rfl
  · refine ⟨⟨fun τ => stableE_det _, leans_not⟩, ?_⟩
    intro a w O hk
    have e2 : a.eval (.tmp 2) = .slice Av nv cv := (hk.init 2 (initialB_of_nw nw2)).trans hi2
    have e94 : a.eval (.tmp 94) = .bool true := hk.fact 21 _ 94 rfl rfl rfl rfl
    exact toE (ob_move rfl e2 (wanted_of rfl rfl rfl e94) rfl)
  · refine ⟨⟨fun τ => stableE_det _, leans_not⟩, ?_⟩
    intro a w O hk
    have e95 : a.eval (.tmp 95) = lvV Ar cr lr := hk.fact 22 _ 95 rfl rfl rfl rfl
    have e96 : a.eval (.tmp 96) = .slice Av nv cv := hk.fact 23 _ 96 rfl rfl rfl rfl
    have e94 : a.eval (.tmp 94) = .bool true := hk.fact 21 _ 94 rfl rfl rfl rfl
    exact obE_callV #[lvV Ar cr lr, .slice Av nv cv] rfl rfl rfl rfl (by simp only [List.map_cons, List.map_nil]; rw [e95, e96]) (wanted_of rfl rfl rfl e94) (value_calls Ar Av cr nv cv lr vs w (LvS.all (LvS.same hinr (fun k hk' _ => hk.fix k ((fun k hk' => est2_fix hk' (fun h => h) (fun h => h)) k hk')))) (ReadsInt.still hv fun k hk' => hk.fix k (est2_fix hk' (fun h => h) (fun h => h))))
  · refine ⟨⟨fun τ => stableE_det _, leans_not⟩, ?_⟩
    intro a w O hk
    have e9 : a.eval (.tmp 9) = .int .i64 x := (hk.init 9 (initialB_of_nw nw9)).trans hi9
    have e94 : a.eval (.tmp 94) = .bool true := hk.fact 21 _ 94 rfl rfl rfl rfl
    exact toE (ob_move rfl e9 (wanted_of rfl rfl rfl e94) rfl)
  · refine ⟨⟨fun τ => stableE_det _, leans_not⟩, ?_⟩
    intro a w O hk
    have e97 : a.eval (.tmp 97) = .int .i64 (valB vs lr) := hk.fact 24 _ 97 rfl rfl rfl rfl
    have e98 : a.eval (.tmp 98) = .int .i64 x := hk.fact 25 _ 98 rfl rfl rfl rfl
    have e94 : a.eval (.tmp 94) = .bool true := hk.fact 21 _ 94 rfl rfl rfl rfl
    exact toE (ob_neqInt false rfl e97 e98 (by simpa using hrx) (wanted_of rfl rfl rfl e94) rfl)
  · refine ⟨⟨fun τ => stableE_det _, leans_not⟩, ?_⟩
    intro a w O hk
    have e94 : a.eval (.tmp 94) = .bool true := hk.fact 21 _ 94 rfl rfl rfl rfl
    have e99 : a.eval (.tmp 99) = .bool false := hk.fact 26 _ 99 rfl rfl rfl rfl
    have e91 : a.eval (.tmp 91) = .bool false := hk.fact 18 _ 91 rfl rfl rfl rfl
    exact toE (ob_pick rfl e94 e99 (wanted_of rfl rfl rfl e91) rfl)
  · refine ⟨⟨fun τ => stableE_det _, leans_not⟩, ?_⟩
    intro a w O hk
    have e91 : a.eval (.tmp 91) = .bool false := hk.fact 18 _ 91 rfl rfl rfl rfl
    have e100 : a.eval (.tmp 100) = .bool false := hk.fact 27 _ 100 rfl rfl rfl rfl
    exact toE (ob_pick rfl e91 e100 (wanted_none rfl) rfl)
set_option maxRecDepth 100000 in
set_option maxHeartbeats 8000000 in
theorem ma111_region {Q : Exit → Act → World → Prop} {id : Nat} (w0 : World) (b p : Nat) (Aa Ab Ar Av : Option Addr) (ca cb cr nv cv : Nat) (la lb lr : Lv) (vs : List Int) (x y : Int) {s0 s1 s5 s6 s7 s8 s12 s13 s14 s15 s16 s17 s18 s19 s20 s21 s22 s23 s24 s25 s26 s27 s28 s29 s30 s31 s32 s33 s34 s35 s36 s37 s38 s39 s40 s41 s42 s43 s44 s45 s46 s47 s48 s49 s50 s51 s52 s53 s54 s55 s56 s57 s58 s59 s60 s61 s62 s63 s64 s65 s66 s67 s68 s69 s70 s71 s72 s73 s74 s75 s76 s77 s78 s79 s80 s81 s82 s83 s84 s85 s86 s87 s88 s89 s90 s91 s92 s93 s94 s95 s96 s97 s98 s99 s100 s101 s102 s103 s104 s105 s106 s107 s108 s109 s110 s111 s112 s113 s114 s115 s116 s117 s118 s119 s120 s121 s122 s123 s124 s125 s126 s127 s128 s129 s130 s131 s132 : Value} (hxa : w0.heap[b]? = some (.cells #[.int .i64 la.kind, .int .i64 la.num, .slice Aa la.kids.length ca] 24 (0, 0))) (hina : LvS w0 (fun k => k < w0.heap.size) Aa ca la) (hxb : w0.heap[b + 1]? = some (.cells #[.int .i64 lb.kind, .int .i64 lb.num, .slice Ab lb.kids.length cb] 24 (0, 0))) (hinb : LvS w0 (fun k => k < w0.heap.size) Ab cb lb) (hxr : w0.heap[p]? = some (.cells #[.int .i64 lr.kind, .int .i64 lr.num, .slice Ar lr.kids.length cr] 24 (0, 0))) (hinr : LvS w0 (fun k => k < w0.heap.size) Ar cr lr) (hv : ReadsInt w0 .i64 Av nv vs) (hlq : leqP la lb = true) (hxy : decide (y < x) = false) (heq : eqP la lb = true) (hxe : x = y) (hsr : soundB lr = true) (hrx : valB vs lr = x)
    (hend : ∀ (w' : World), Chg (fun k => False ∨ False) w0 w' → Q .normal { tmps := (s0 :: s1 :: (.slice Av nv cv : Value) :: (.pointer (some ⟨b, 0, none⟩) : Value) :: (.pointer (some ⟨b + 1, 0, none⟩) : Value) :: s5 :: s6 :: s7 :: s8 :: (.int .i64 x : Value) :: (.int .i64 y : Value) :: (.pointer (some ⟨p, 0, none⟩) : Value) :: s12 :: s13 :: s14 :: s15 :: s16 :: s17 :: s18 :: s19 :: s20 :: s21 :: s22 :: s23 :: s24 :: s25 :: s26 :: s27 :: s28 :: s29 :: s30 :: s31 :: s32 :: s33 :: s34 :: s35 :: s36 :: s37 :: s38 :: s39 :: s40 :: s41 :: s42 :: s43 :: s44 :: s45 :: s46 :: s47 :: s48 :: s49 :: s50 :: s51 :: s52 :: s53 :: s54 :: s55 :: s56 :: s57 :: s58 :: s59 :: s60 :: s61 :: s62 :: s63 :: s64 :: s65 :: s66 :: s67 :: s68 :: s69 :: s70 :: s71 :: s72 :: (lvV Aa ca la : Value) :: (lvV Ab cb lb : Value) :: (.bool true : Value) :: (.bool true : Value) :: (.int .i64 x : Value) :: (.int .i64 y : Value) :: (.bool false : Value) :: (.bool false : Value) :: (.bool false : Value) :: (lvV Aa ca la : Value) :: (lvV Ab cb lb : Value) :: (.bool true : Value) :: (.bool true : Value) :: (.int .i64 x : Value) :: (.int .i64 y : Value) :: (.bool false : Value) :: (.bool false : Value) :: (.bool false : Value) :: (.bool false : Value) :: (lvV Ar cr lr : Value) :: (.bool true : Value) :: (.bool true : Value) :: (lvV Ar cr lr : Value) :: (.slice Av nv cv : Value) :: (.int .i64 (valB vs lr) : Value) :: (.int .i64 x : Value) :: (.bool false : Value) :: (.bool false : Value) :: (.bool false : Value) :: s102 :: s103 :: s104 :: s105 :: s106 :: s107 :: s108 :: s109 :: s110 :: s111 :: s112 :: s113 :: s114 :: s115 :: s116 :: s117 :: s118 :: s119 :: s120 :: s121 :: s122 :: s123 :: s124 :: s125 :: s126 :: s127 :: s128 :: s129 :: s130 :: s131 :: s132 :: ([] : List Value)).toArray, defers := [] } w') :
    (Code.region id ma111_ops.toArray false).wp Try.prog Q { tmps := (s0 :: s1 :: (.slice Av nv cv : Value) :: (.pointer (some ⟨b, 0, none⟩) : Value) :: (.pointer (some ⟨b + 1, 0, none⟩) : Value) :: s5 :: s6 :: s7 :: s8 :: (.int .i64 x : Value) :: (.int .i64 y : Value) :: (.pointer (some ⟨p, 0, none⟩) : Value) :: s12 :: s13 :: s14 :: s15 :: s16 :: s17 :: s18 :: s19 :: s20 :: s21 :: s22 :: s23 :: s24 :: s25 :: s26 :: s27 :: s28 :: s29 :: s30 :: s31 :: s32 :: s33 :: s34 :: s35 :: s36 :: s37 :: s38 :: s39 :: s40 :: s41 :: s42 :: s43 :: s44 :: s45 :: s46 :: s47 :: s48 :: s49 :: s50 :: s51 :: s52 :: s53 :: s54 :: s55 :: s56 :: s57 :: s58 :: s59 :: s60 :: s61 :: s62 :: s63 :: s64 :: s65 :: s66 :: s67 :: s68 :: s69 :: s70 :: s71 :: s72 :: s73 :: s74 :: s75 :: s76 :: s77 :: s78 :: s79 :: s80 :: s81 :: s82 :: s83 :: s84 :: s85 :: s86 :: s87 :: s88 :: s89 :: s90 :: s91 :: s92 :: s93 :: s94 :: s95 :: s96 :: s97 :: s98 :: s99 :: s100 :: s101 :: s102 :: s103 :: s104 :: s105 :: s106 :: s107 :: s108 :: s109 :: s110 :: s111 :: s112 :: s113 :: s114 :: s115 :: s116 :: s117 :: s118 :: s119 :: s120 :: s121 :: s122 :: s123 :: s124 :: s125 :: s126 :: s127 :: s128 :: s129 :: s130 :: s131 :: s132 :: ([] : List Value)).toArray, defers := [] } w0 := by
  refine wp_region_est0 (est2 0 0 (fun _ => False) (fun _ => False)) ma111_C (ma111_F w0 b p Aa Ab Ar Av ca cb cr nv cv la lb lr vs x y) (est2_dis (fun _ h _ => h)) (est2_range (fun _ h => h.elim) (fun _ h => h.elim)) (by rfl) (by kernel_rfl) (ma111_obs w0 b p Aa Ab Ar Av ca cb cr nv cv la lb lr vs x y hxa hina hxb hinb hxr hinr hv hlq hxy heq hxe hsr hrx _ _ rfl rfl rfl rfl rfl rfl) ?_
  intro a w' O hd hs hb hf hf2 ha hsame
  have hx : ∀ (qi : Nat) (qv : Value), nwB ma111_ops.toArray qi = true → (s0 :: s1 :: (.slice Av nv cv : Value) :: (.pointer (some ⟨b, 0, none⟩) : Value) :: (.pointer (some ⟨b + 1, 0, none⟩) : Value) :: s5 :: s6 :: s7 :: s8 :: (.int .i64 x : Value) :: (.int .i64 y : Value) :: (.pointer (some ⟨p, 0, none⟩) : Value) :: s12 :: s13 :: s14 :: s15 :: s16 :: s17 :: s18 :: s19 :: s20 :: s21 :: s22 :: s23 :: s24 :: s25 :: s26 :: s27 :: s28 :: s29 :: s30 :: s31 :: s32 :: s33 :: s34 :: s35 :: s36 :: s37 :: s38 :: s39 :: s40 :: s41 :: s42 :: s43 :: s44 :: s45 :: s46 :: s47 :: s48 :: s49 :: s50 :: s51 :: s52 :: s53 :: s54 :: s55 :: s56 :: s57 :: s58 :: s59 :: s60 :: s61 :: s62 :: s63 :: s64 :: s65 :: s66 :: s67 :: s68 :: s69 :: s70 :: s71 :: s72 :: s73 :: s74 :: s75 :: s76 :: s77 :: s78 :: s79 :: s80 :: s81 :: s82 :: s83 :: s84 :: s85 :: s86 :: s87 :: s88 :: s89 :: s90 :: s91 :: s92 :: s93 :: s94 :: s95 :: s96 :: s97 :: s98 :: s99 :: s100 :: s101 :: s102 :: s103 :: s104 :: s105 :: s106 :: s107 :: s108 :: s109 :: s110 :: s111 :: s112 :: s113 :: s114 :: s115 :: s116 :: s117 :: s118 :: s119 :: s120 :: s121 :: s122 :: s123 :: s124 :: s125 :: s126 :: s127 :: s128 :: s129 :: s130 :: s131 :: s132 :: ([] : List Value)).toArray.getD qi undef = qv → a.tmps.getD qi undef = qv := fun qi qv h e => (hsame qi (nwB.spec h)).trans e
  have x0 := hx 0 s0 (by kernel_rfl) rfl
  have x1 := hx 1 s1 (by kernel_rfl) rfl
  have x2 := hx 2 (.slice Av nv cv) (by kernel_rfl) rfl
  have x3 := hx 3 (.pointer (some ⟨b, 0, none⟩)) (by kernel_rfl) rfl
  have x4 := hx 4 (.pointer (some ⟨b + 1, 0, none⟩)) (by kernel_rfl) rfl
  have x5 := hx 5 s5 (by kernel_rfl) rfl
  have x6 := hx 6 s6 (by kernel_rfl) rfl
  have x7 := hx 7 s7 (by kernel_rfl) rfl
  have x8 := hx 8 s8 (by kernel_rfl) rfl
  have x9 := hx 9 (.int .i64 x) (by kernel_rfl) rfl
  have x10 := hx 10 (.int .i64 y) (by kernel_rfl) rfl
  have x11 := hx 11 (.pointer (some ⟨p, 0, none⟩)) (by kernel_rfl) rfl
  have x12 := hx 12 s12 (by kernel_rfl) rfl
  have x13 := hx 13 s13 (by kernel_rfl) rfl
  have x14 := hx 14 s14 (by kernel_rfl) rfl
  have x15 := hx 15 s15 (by kernel_rfl) rfl
  have x16 := hx 16 s16 (by kernel_rfl) rfl
  have x17 := hx 17 s17 (by kernel_rfl) rfl
  have x18 := hx 18 s18 (by kernel_rfl) rfl
  have x19 := hx 19 s19 (by kernel_rfl) rfl
  have x20 := hx 20 s20 (by kernel_rfl) rfl
  have x21 := hx 21 s21 (by kernel_rfl) rfl
  have x22 := hx 22 s22 (by kernel_rfl) rfl
  have x23 := hx 23 s23 (by kernel_rfl) rfl
  have x24 := hx 24 s24 (by kernel_rfl) rfl
  have x25 := hx 25 s25 (by kernel_rfl) rfl
  have x26 := hx 26 s26 (by kernel_rfl) rfl
  have x27 := hx 27 s27 (by kernel_rfl) rfl
  have x28 := hx 28 s28 (by kernel_rfl) rfl
  have x29 := hx 29 s29 (by kernel_rfl) rfl
  have x30 := hx 30 s30 (by kernel_rfl) rfl
  have x31 := hx 31 s31 (by kernel_rfl) rfl
  have x32 := hx 32 s32 (by kernel_rfl) rfl
  have x33 := hx 33 s33 (by kernel_rfl) rfl
  have x34 := hx 34 s34 (by kernel_rfl) rfl
  have x35 := hx 35 s35 (by kernel_rfl) rfl
  have x36 := hx 36 s36 (by kernel_rfl) rfl
  have x37 := hx 37 s37 (by kernel_rfl) rfl
  have x38 := hx 38 s38 (by kernel_rfl) rfl
  have x39 := hx 39 s39 (by kernel_rfl) rfl
  have x40 := hx 40 s40 (by kernel_rfl) rfl
  have x41 := hx 41 s41 (by kernel_rfl) rfl
  have x42 := hx 42 s42 (by kernel_rfl) rfl
  have x43 := hx 43 s43 (by kernel_rfl) rfl
  have x44 := hx 44 s44 (by kernel_rfl) rfl
  have x45 := hx 45 s45 (by kernel_rfl) rfl
  have x46 := hx 46 s46 (by kernel_rfl) rfl
  have x47 := hx 47 s47 (by kernel_rfl) rfl
  have x48 := hx 48 s48 (by kernel_rfl) rfl
  have x49 := hx 49 s49 (by kernel_rfl) rfl
  have x50 := hx 50 s50 (by kernel_rfl) rfl
  have x51 := hx 51 s51 (by kernel_rfl) rfl
  have x52 := hx 52 s52 (by kernel_rfl) rfl
  have x53 := hx 53 s53 (by kernel_rfl) rfl
  have x54 := hx 54 s54 (by kernel_rfl) rfl
  have x55 := hx 55 s55 (by kernel_rfl) rfl
  have x56 := hx 56 s56 (by kernel_rfl) rfl
  have x57 := hx 57 s57 (by kernel_rfl) rfl
  have x58 := hx 58 s58 (by kernel_rfl) rfl
  have x59 := hx 59 s59 (by kernel_rfl) rfl
  have x60 := hx 60 s60 (by kernel_rfl) rfl
  have x61 := hx 61 s61 (by kernel_rfl) rfl
  have x62 := hx 62 s62 (by kernel_rfl) rfl
  have x63 := hx 63 s63 (by kernel_rfl) rfl
  have x64 := hx 64 s64 (by kernel_rfl) rfl
  have x65 := hx 65 s65 (by kernel_rfl) rfl
  have x66 := hx 66 s66 (by kernel_rfl) rfl
  have x67 := hx 67 s67 (by kernel_rfl) rfl
  have x68 := hx 68 s68 (by kernel_rfl) rfl
  have x69 := hx 69 s69 (by kernel_rfl) rfl
  have x70 := hx 70 s70 (by kernel_rfl) rfl
  have x71 := hx 71 s71 (by kernel_rfl) rfl
  have x72 := hx 72 s72 (by kernel_rfl) rfl
  have x73 : a.tmps.getD 73 undef = lvV Aa ca la := (hf 0 _ 73 rfl rfl (by decide)).1
  have x74 : a.tmps.getD 74 undef = lvV Ab cb lb := (hf 1 _ 74 rfl rfl (by decide)).1
  have x75 : a.tmps.getD 75 undef = .bool true := (hf 2 _ 75 rfl rfl (by decide)).1
  have x76 : a.tmps.getD 76 undef = .bool true := (hf 3 _ 76 rfl rfl (by decide)).1
  have x77 : a.tmps.getD 77 undef = .int .i64 x := (hf 4 _ 77 rfl rfl (by decide)).1
  have x78 : a.tmps.getD 78 undef = .int .i64 y := (hf 5 _ 78 rfl rfl (by decide)).1
  have x79 : a.tmps.getD 79 undef = .bool false := (hf 6 _ 79 rfl rfl (by decide)).1
  have x80 : a.tmps.getD 80 undef = .bool false := (hf 7 _ 80 rfl rfl (by decide)).1
  have x81 : a.tmps.getD 81 undef = .bool false := (hf 8 _ 81 rfl rfl (by decide)).1
  have x82 : a.tmps.getD 82 undef = lvV Aa ca la := (hf 9 _ 82 rfl rfl (by decide)).1
  have x83 : a.tmps.getD 83 undef = lvV Ab cb lb := (hf 10 _ 83 rfl rfl (by decide)).1
  have x84 : a.tmps.getD 84 undef = .bool true := (hf 11 _ 84 rfl rfl (by decide)).1
  have x85 : a.tmps.getD 85 undef = .bool true := (hf 12 _ 85 rfl rfl (by decide)).1
  have x86 : a.tmps.getD 86 undef = .int .i64 x := (hf 13 _ 86 rfl rfl (by decide)).1
  have x87 : a.tmps.getD 87 undef = .int .i64 y := (hf 14 _ 87 rfl rfl (by decide)).1
  have x88 : a.tmps.getD 88 undef = .bool false := (hf 15 _ 88 rfl rfl (by decide)).1
  have x89 : a.tmps.getD 89 undef = .bool false := (hf 16 _ 89 rfl rfl (by decide)).1
  have x90 : a.tmps.getD 90 undef = .bool false := (hf 17 _ 90 rfl rfl (by decide)).1
  have x91 : a.tmps.getD 91 undef = .bool false := (hf 18 _ 91 rfl rfl (by decide)).1
  have x92 : a.tmps.getD 92 undef = lvV Ar cr lr := (hf 19 _ 92 rfl rfl (by decide)).1
  have x93 : a.tmps.getD 93 undef = .bool true := (hf 20 _ 93 rfl rfl (by decide)).1
  have x94 : a.tmps.getD 94 undef = .bool true := (hf 21 _ 94 rfl rfl (by decide)).1
  have x95 : a.tmps.getD 95 undef = lvV Ar cr lr := (hf 22 _ 95 rfl rfl (by decide)).1
  have x96 : a.tmps.getD 96 undef = .slice Av nv cv := (hf 23 _ 96 rfl rfl (by decide)).1
  have x97 : a.tmps.getD 97 undef = .int .i64 (valB vs lr) := (hf 24 _ 97 rfl rfl (by decide)).1
  have x98 : a.tmps.getD 98 undef = .int .i64 x := (hf 25 _ 98 rfl rfl (by decide)).1
  have x99 : a.tmps.getD 99 undef = .bool false := (hf 26 _ 99 rfl rfl (by decide)).1
  have x100 : a.tmps.getD 100 undef = .bool false := (hf 27 _ 100 rfl rfl (by decide)).1
  have x101 : a.tmps.getD 101 undef = .bool false := (hf 28 _ 101 rfl rfl (by decide)).1
  have x102 := hx 102 s102 (by kernel_rfl) rfl
  have x103 := hx 103 s103 (by kernel_rfl) rfl
  have x104 := hx 104 s104 (by kernel_rfl) rfl
  have x105 := hx 105 s105 (by kernel_rfl) rfl
  have x106 := hx 106 s106 (by kernel_rfl) rfl
  have x107 := hx 107 s107 (by kernel_rfl) rfl
  have x108 := hx 108 s108 (by kernel_rfl) rfl
  have x109 := hx 109 s109 (by kernel_rfl) rfl
  have x110 := hx 110 s110 (by kernel_rfl) rfl
  have x111 := hx 111 s111 (by kernel_rfl) rfl
  have x112 := hx 112 s112 (by kernel_rfl) rfl
  have x113 := hx 113 s113 (by kernel_rfl) rfl
  have x114 := hx 114 s114 (by kernel_rfl) rfl
  have x115 := hx 115 s115 (by kernel_rfl) rfl
  have x116 := hx 116 s116 (by kernel_rfl) rfl
  have x117 := hx 117 s117 (by kernel_rfl) rfl
  have x118 := hx 118 s118 (by kernel_rfl) rfl
  have x119 := hx 119 s119 (by kernel_rfl) rfl
  have x120 := hx 120 s120 (by kernel_rfl) rfl
  have x121 := hx 121 s121 (by kernel_rfl) rfl
  have x122 := hx 122 s122 (by kernel_rfl) rfl
  have x123 := hx 123 s123 (by kernel_rfl) rfl
  have x124 := hx 124 s124 (by kernel_rfl) rfl
  have x125 := hx 125 s125 (by kernel_rfl) rfl
  have x126 := hx 126 s126 (by kernel_rfl) rfl
  have x127 := hx 127 s127 (by kernel_rfl) rfl
  have x128 := hx 128 s128 (by kernel_rfl) rfl
  have x129 := hx 129 s129 (by kernel_rfl) rfl
  have x130 := hx 130 s130 (by kernel_rfl) rfl
  have x131 := hx 131 s131 (by kernel_rfl) rfl
  have x132 := hx 132 s132 (by kernel_rfl) rfl
  have hl : a.tmps = (s0 :: s1 :: (.slice Av nv cv : Value) :: (.pointer (some ⟨b, 0, none⟩) : Value) :: (.pointer (some ⟨b + 1, 0, none⟩) : Value) :: s5 :: s6 :: s7 :: s8 :: (.int .i64 x : Value) :: (.int .i64 y : Value) :: (.pointer (some ⟨p, 0, none⟩) : Value) :: s12 :: s13 :: s14 :: s15 :: s16 :: s17 :: s18 :: s19 :: s20 :: s21 :: s22 :: s23 :: s24 :: s25 :: s26 :: s27 :: s28 :: s29 :: s30 :: s31 :: s32 :: s33 :: s34 :: s35 :: s36 :: s37 :: s38 :: s39 :: s40 :: s41 :: s42 :: s43 :: s44 :: s45 :: s46 :: s47 :: s48 :: s49 :: s50 :: s51 :: s52 :: s53 :: s54 :: s55 :: s56 :: s57 :: s58 :: s59 :: s60 :: s61 :: s62 :: s63 :: s64 :: s65 :: s66 :: s67 :: s68 :: s69 :: s70 :: s71 :: s72 :: (lvV Aa ca la : Value) :: (lvV Ab cb lb : Value) :: (.bool true : Value) :: (.bool true : Value) :: (.int .i64 x : Value) :: (.int .i64 y : Value) :: (.bool false : Value) :: (.bool false : Value) :: (.bool false : Value) :: (lvV Aa ca la : Value) :: (lvV Ab cb lb : Value) :: (.bool true : Value) :: (.bool true : Value) :: (.int .i64 x : Value) :: (.int .i64 y : Value) :: (.bool false : Value) :: (.bool false : Value) :: (.bool false : Value) :: (.bool false : Value) :: (lvV Ar cr lr : Value) :: (.bool true : Value) :: (.bool true : Value) :: (lvV Ar cr lr : Value) :: (.slice Av nv cv : Value) :: (.int .i64 (valB vs lr) : Value) :: (.int .i64 x : Value) :: (.bool false : Value) :: (.bool false : Value) :: (.bool false : Value) :: s102 :: s103 :: s104 :: s105 :: s106 :: s107 :: s108 :: s109 :: s110 :: s111 :: s112 :: s113 :: s114 :: s115 :: s116 :: s117 :: s118 :: s119 :: s120 :: s121 :: s122 :: s123 :: s124 :: s125 :: s126 :: s127 :: s128 :: s129 :: s130 :: s131 :: s132 :: ([] : List Value)).toArray := by
    have h := lit a.tmps 133 hs
    have e : ((List.range 133).map (fun i => a.tmps.getD i undef)).toArray = ((a.tmps.getD 0 undef : Value) :: (a.tmps.getD 1 undef : Value) :: (a.tmps.getD 2 undef : Value) :: (a.tmps.getD 3 undef : Value) :: (a.tmps.getD 4 undef : Value) :: (a.tmps.getD 5 undef : Value) :: (a.tmps.getD 6 undef : Value) :: (a.tmps.getD 7 undef : Value) :: (a.tmps.getD 8 undef : Value) :: (a.tmps.getD 9 undef : Value) :: (a.tmps.getD 10 undef : Value) :: (a.tmps.getD 11 undef : Value) :: (a.tmps.getD 12 undef : Value) :: (a.tmps.getD 13 undef : Value) :: (a.tmps.getD 14 undef : Value) :: (a.tmps.getD 15 undef : Value) :: (a.tmps.getD 16 undef : Value) :: (a.tmps.getD 17 undef : Value) :: (a.tmps.getD 18 undef : Value) :: (a.tmps.getD 19 undef : Value) :: (a.tmps.getD 20 undef : Value) :: (a.tmps.getD 21 undef : Value) :: (a.tmps.getD 22 undef : Value) :: (a.tmps.getD 23 undef : Value) :: (a.tmps.getD 24 undef : Value) :: (a.tmps.getD 25 undef : Value) :: (a.tmps.getD 26 undef : Value) :: (a.tmps.getD 27 undef : Value) :: (a.tmps.getD 28 undef : Value) :: (a.tmps.getD 29 undef : Value) :: (a.tmps.getD 30 undef : Value) :: (a.tmps.getD 31 undef : Value) :: (a.tmps.getD 32 undef : Value) :: (a.tmps.getD 33 undef : Value) :: (a.tmps.getD 34 undef : Value) :: (a.tmps.getD 35 undef : Value) :: (a.tmps.getD 36 undef : Value) :: (a.tmps.getD 37 undef : Value) :: (a.tmps.getD 38 undef : Value) :: (a.tmps.getD 39 undef : Value) :: (a.tmps.getD 40 undef : Value) :: (a.tmps.getD 41 undef : Value) :: (a.tmps.getD 42 undef : Value) :: (a.tmps.getD 43 undef : Value) :: (a.tmps.getD 44 undef : Value) :: (a.tmps.getD 45 undef : Value) :: (a.tmps.getD 46 undef : Value) :: (a.tmps.getD 47 undef : Value) :: (a.tmps.getD 48 undef : Value) :: (a.tmps.getD 49 undef : Value) :: (a.tmps.getD 50 undef : Value) :: (a.tmps.getD 51 undef : Value) :: (a.tmps.getD 52 undef : Value) :: (a.tmps.getD 53 undef : Value) :: (a.tmps.getD 54 undef : Value) :: (a.tmps.getD 55 undef : Value) :: (a.tmps.getD 56 undef : Value) :: (a.tmps.getD 57 undef : Value) :: (a.tmps.getD 58 undef : Value) :: (a.tmps.getD 59 undef : Value) :: (a.tmps.getD 60 undef : Value) :: (a.tmps.getD 61 undef : Value) :: (a.tmps.getD 62 undef : Value) :: (a.tmps.getD 63 undef : Value) :: (a.tmps.getD 64 undef : Value) :: (a.tmps.getD 65 undef : Value) :: (a.tmps.getD 66 undef : Value) :: (a.tmps.getD 67 undef : Value) :: (a.tmps.getD 68 undef : Value) :: (a.tmps.getD 69 undef : Value) :: (a.tmps.getD 70 undef : Value) :: (a.tmps.getD 71 undef : Value) :: (a.tmps.getD 72 undef : Value) :: (a.tmps.getD 73 undef : Value) :: (a.tmps.getD 74 undef : Value) :: (a.tmps.getD 75 undef : Value) :: (a.tmps.getD 76 undef : Value) :: (a.tmps.getD 77 undef : Value) :: (a.tmps.getD 78 undef : Value) :: (a.tmps.getD 79 undef : Value) :: (a.tmps.getD 80 undef : Value) :: (a.tmps.getD 81 undef : Value) :: (a.tmps.getD 82 undef : Value) :: (a.tmps.getD 83 undef : Value) :: (a.tmps.getD 84 undef : Value) :: (a.tmps.getD 85 undef : Value) :: (a.tmps.getD 86 undef : Value) :: (a.tmps.getD 87 undef : Value) :: (a.tmps.getD 88 undef : Value) :: (a.tmps.getD 89 undef : Value) :: (a.tmps.getD 90 undef : Value) :: (a.tmps.getD 91 undef : Value) :: (a.tmps.getD 92 undef : Value) :: (a.tmps.getD 93 undef : Value) :: (a.tmps.getD 94 undef : Value) :: (a.tmps.getD 95 undef : Value) :: (a.tmps.getD 96 undef : Value) :: (a.tmps.getD 97 undef : Value) :: (a.tmps.getD 98 undef : Value) :: (a.tmps.getD 99 undef : Value) :: (a.tmps.getD 100 undef : Value) :: (a.tmps.getD 101 undef : Value) :: (a.tmps.getD 102 undef : Value) :: (a.tmps.getD 103 undef : Value) :: (a.tmps.getD 104 undef : Value) :: (a.tmps.getD 105 undef : Value) :: (a.tmps.getD 106 undef : Value) :: (a.tmps.getD 107 undef : Value) :: (a.tmps.getD 108 undef : Value) :: (a.tmps.getD 109 undef : Value) :: (a.tmps.getD 110 undef : Value) :: (a.tmps.getD 111 undef : Value) :: (a.tmps.getD 112 undef : Value) :: (a.tmps.getD 113 undef : Value) :: (a.tmps.getD 114 undef : Value) :: (a.tmps.getD 115 undef : Value) :: (a.tmps.getD 116 undef : Value) :: (a.tmps.getD 117 undef : Value) :: (a.tmps.getD 118 undef : Value) :: (a.tmps.getD 119 undef : Value) :: (a.tmps.getD 120 undef : Value) :: (a.tmps.getD 121 undef : Value) :: (a.tmps.getD 122 undef : Value) :: (a.tmps.getD 123 undef : Value) :: (a.tmps.getD 124 undef : Value) :: (a.tmps.getD 125 undef : Value) :: (a.tmps.getD 126 undef : Value) :: (a.tmps.getD 127 undef : Value) :: (a.tmps.getD 128 undef : Value) :: (a.tmps.getD 129 undef : Value) :: (a.tmps.getD 130 undef : Value) :: (a.tmps.getD 131 undef : Value) :: (a.tmps.getD 132 undef : Value) :: ([] : List Value)).toArray := rfl
    rw [e, x0, x1, x2, x3, x4, x5, x6, x7, x8, x9, x10, x11, x12, x13, x14, x15, x16, x17, x18, x19, x20, x21, x22, x23, x24, x25, x26, x27, x28, x29, x30, x31, x32, x33, x34, x35, x36, x37, x38, x39, x40, x41, x42, x43, x44, x45, x46, x47, x48, x49, x50, x51, x52, x53, x54, x55, x56, x57, x58, x59, x60, x61, x62, x63, x64, x65, x66, x67, x68, x69, x70, x71, x72, x73, x74, x75, x76, x77, x78, x79, x80, x81, x82, x83, x84, x85, x86, x87, x88, x89, x90, x91, x92, x93, x94, x95, x96, x97, x98, x99, x100, x101, x102, x103, x104, x105, x106, x107, x108, x109, x110, x111, x112, x113, x114, x115, x116, x117, x118, x119, x120, x121, x122, x123, x124, x125, x126, x127, x128, x129, x130, x131, x132] at h
    exact h
  obtain ⟨tmps, defers⟩ := a
  obtain rfl : defers = [] := hd
  have hl' : tmps = _ := hl
  rw [hl']
  have hb' := est2_chg hb
  exact hend w' ⟨hb'.os, hb'.tape, hb'.output, hb'.size, hb'.block⟩

def ma110_F (w0 : World) (b p : Nat) (Aa Ab Ar Av : Option Addr) (ca cb cr nv cv : Nat) (la lb lr : Lv) (vs : List Int) (x y : Int) : Nat → (Nat → Value) → Value → World → (Nat → Prop) → Prop := fun rix => match rix with
  | 0 => fun _ v _ _ => v = lvV Aa ca la
  | 1 => fun _ v _ _ => v = lvV Ab cb lb
  | 2 => fun _ v _ _ => v = .bool true
  | 3 => fun _ v _ _ => v = .bool true
  | 4 => fun _ v _ _ => v = .int .i64 x
  | 5 => fun _ v _ _ => v = .int .i64 y
  | 6 => fun _ v _ _ => v = .bool false
  | 7 => fun _ v _ _ => v = .bool false
  | 8 => fun _ v _ _ => v = .bool false
  | 9 => fun _ v _ _ => v = lvV Aa ca la
  | 10 => fun _ v _ _ => v = lvV Ab cb lb
  | 11 => fun _ v _ _ => v = .bool true
  | 12 => fun _ v _ _ => v = .bool true
  | 13 => fun _ v _ _ => v = .int .i64 x
  | 14 => fun _ v _ _ => v = .int .i64 y
  | 15 => fun _ v _ _ => v = .bool false
  | 16 => fun _ v _ _ => v = .bool false
  | 17 => fun _ v _ _ => v = .bool false
  | 18 => fun _ v _ _ => v = .bool false
  | 19 => fun _ v _ _ => v = lvV Ar cr lr
  | 20 => fun _ v _ _ => v = .bool false
  | 21 => fun _ v _ _ => v = .bool false
  | 22 => fun _ v _ _ => v = undef
  | 23 => fun _ v _ _ => v = undef
  | 24 => fun _ v _ _ => v = undef
  | 25 => fun _ v _ _ => v = undef
  | 26 => fun _ v _ _ => v = undef
  | 27 => fun _ v _ _ => v = .bool false
  | 28 => fun _ v _ _ => v = .bool false
  | _ => fun _ _ _ _ => True
def ma110_C : Nat → List Nat := fun rix => match rix with
  | _ => []
theorem ma110_nw2 : nwB ma111_ops.toArray 2 = true := by kernel_rfl
theorem ma110_nw3 : nwB ma111_ops.toArray 3 = true := by kernel_rfl
theorem ma110_nw4 : nwB ma111_ops.toArray 4 = true := by kernel_rfl
theorem ma110_nw9 : nwB ma111_ops.toArray 9 = true := by kernel_rfl
theorem ma110_nw10 : nwB ma111_ops.toArray 10 = true := by kernel_rfl
theorem ma110_nw11 : nwB ma111_ops.toArray 11 = true := by kernel_rfl
set_option maxRecDepth 100000 in
set_option maxHeartbeats 8000000 in
theorem ma110_obs (w0 : World) (b p : Nat) (Aa Ab Ar Av : Option Addr) (ca cb cr nv cv : Nat) (la lb lr : Lv) (vs : List Int) (x y : Int) (hxa : w0.heap[b]? = some (.cells #[.int .i64 la.kind, .int .i64 la.num, .slice Aa la.kids.length ca] 24 (0, 0))) (hina : LvS w0 (fun k => k < w0.heap.size) Aa ca la) (hxb : w0.heap[b + 1]? = some (.cells #[.int .i64 lb.kind, .int .i64 lb.num, .slice Ab lb.kids.length cb] 24 (0, 0))) (hinb : LvS w0 (fun k => k < w0.heap.size) Ab cb lb) (hxr : w0.heap[p]? = some (.cells #[.int .i64 lr.kind, .int .i64 lr.num, .slice Ar lr.kids.length cr] 24 (0, 0))) (hinr : LvS w0 (fun k => k < w0.heap.size) Ar cr lr) (hv : ReadsInt w0 .i64 Av nv vs) (hlq : leqP la lb = true) (hxy : decide (y < x) = false) (heq : eqP la lb = true) (hxe : x = y) (hsr : soundB lr = false) (Q : Exit → Act → World → Prop) (a0 : Act) (hi2 : a0.tmps.getD 2 undef = .slice Av nv cv) (hi3 : a0.tmps.getD 3 undef = .pointer (some ⟨b, 0, none⟩)) (hi4 : a0.tmps.getD 4 undef = .pointer (some ⟨b + 1, 0, none⟩)) (hi9 : a0.tmps.getD 9 undef = .int .i64 x) (hi10 : a0.tmps.getD 10 undef = .int .i64 y) (hi11 : a0.tmps.getD 11 undef = .pointer (some ⟨p, 0, none⟩)) :
    ObsE Try.prog ma111_ops.toArray Q (est2 0 0 (fun _ => False) (fun _ => False)) ma110_C (ma110_F w0 b p Aa Ab Ar Av ca cb cr nv cv la lb lr vs x y) a0 w0 ma111_ops.toArray.toList 0 := by
  have nw2 := ma110_nw2
  have nw3 := ma110_nw3
  have nw4 := ma110_nw4
  have nw9 := ma110_nw9
  have nw10 := ma110_nw10
  have nw11 := ma110_nw11
  refine ⟨?_, ?_, ?_, ?_, ?_, ?_, ?_, ?_, ?_, ?_, ?_, ?_, ?_, ?_, ?_, ?_, ?_, ?_, ?_, ?_, ?_, ?_, ?_, ?_, ?_, ?_, ?_, ?_, ?_, trivial⟩
  · refine ⟨⟨fun τ => stableE_det _, leans_not⟩, ?_⟩
    intro a w O hk
    have e3 : a.eval (.tmp 3) = .pointer (some ⟨b, 0, none⟩) := (hk.init 3 (initialB_of_nw nw3)).trans hi3
    have x3 := hk.world.still hxa (fun ⟨_, h⟩ => h.elim And.right And.right)
    exact obE_loadRow rfl e3 x3 Try.underlying24 rfl (by kernel_rfl) (wanted_none rfl) rfl
  · refine ⟨⟨fun τ => stableE_det _, leans_not⟩, ?_⟩
    intro a w O hk
    have e4 : a.eval (.tmp 4) = .pointer (some ⟨b + 1, 0, none⟩) := (hk.init 4 (initialB_of_nw nw4)).trans hi4
    have x4 := hk.world.still hxb (fun ⟨_, h⟩ => h.elim And.right And.right)
    exact obE_loadRow rfl e4 x4 Try.underlying24 rfl (by kernel_rfl) (wanted_none rfl) rfl
  · refine ⟨⟨fun τ => stableE_det _, leans_not⟩, ?_⟩
    intro a w O hk
    have e73 : a.eval (.tmp 73) = lvV Aa ca la := hk.fact 0 _ 73 rfl rfl rfl rfl
    have e74 : a.eval (.tmp 74) = lvV Ab cb lb := hk.fact 1 _ 74 rfl rfl rfl rfl
    exact obE_lvLeq rfl (wanted_none rfl) (show LvV (fun k => k < w0.heap.size) la (a.eval (.tmp 73)) w (fun _ => False) by rw [e73]; exact LvV.old hina (fun k hk' => est2_fix hk' (fun h => h) (fun h => h)) hk.fix) (show LvV (fun k => k < w0.heap.size) lb (a.eval (.tmp 74)) w (fun _ => False) by rw [e74]; exact LvV.old hinb (fun k hk' => est2_fix hk' (fun h => h) (fun h => h)) hk.fix) hlq
  · refine ⟨⟨fun τ => stableE_det _, leans_not⟩, ?_⟩
    intro a w O hk
    have e75 : a.eval (.tmp 75) = .bool true := hk.fact 2 _ 75 rfl rfl rfl rfl
    exact toE (ob_move rfl e75 (wanted_none rfl) rfl)
  · refine ⟨⟨fun τ => stableE_det _, leans_not⟩, ?_⟩
    intro a w O hk
    have e9 : a.eval (.tmp 9) = .int .i64 x := (hk.init 9 (initialB_of_nw nw9)).trans hi9
    have e76 : a.eval (.tmp 76) = .bool true := hk.fact 3 _ 76 rfl rfl rfl rfl
    exact toE (ob_move rfl e9 (wanted_of rfl rfl rfl e76) rfl)
  · refine ⟨⟨fun τ => stableE_det _, leans_not⟩, ?_⟩
    intro a w O hk
    have e10 : a.eval (.tmp 10) = .int .i64 y := (hk.init 10 (initialB_of_nw nw10)).trans hi10
    have e76 : a.eval (.tmp 76) = .bool true := hk.fact 3 _ 76 rfl rfl rfl rfl
    exact toE (ob_move rfl e10 (wanted_of rfl rfl rfl e76) rfl)
  · refine ⟨⟨fun τ => stableE_det _, leans_not⟩, ?_⟩
    intro a w O hk
    have e77 : a.eval (.tmp 77) = .int .i64 x := hk.fact 4 _ 77 rfl rfl rfl rfl
    have e78 : a.eval (.tmp 78) = .int .i64 y := hk.fact 5 _ 78 rfl rfl rfl rfl
    have e76 : a.eval (.tmp 76) = .bool true := hk.fact 3 _ 76 rfl rfl rfl rfl
    exact toE (ob_bin rfl e77 e78 (run_gtrB _ _ false hxy) (by decide) (wanted_of rfl rfl rfl e76) rfl)
  · refine ⟨⟨fun τ => stableE_det _, leans_not⟩, ?_⟩
    intro a w O hk
    have e76 : a.eval (.tmp 76) = .bool true := hk.fact 3 _ 76 rfl rfl rfl rfl
    have e79 : a.eval (.tmp 79) = .bool false := hk.fact 6 _ 79 rfl rfl rfl rfl
    exact toE (ob_pick rfl e76 e79 (wanted_none rfl) rfl)
  · refine ⟨⟨fun τ => stableE_det _, leans_not⟩, ?_⟩
    intro a w O hk
    have e80 : a.eval (.tmp 80) = .bool false := hk.fact 7 _ 80 rfl rfl rfl rfl
    exact toE (ob_move rfl e80 (wanted_none rfl) rfl)
  · refine ⟨⟨fun τ => stableE_det _, leans_not⟩, ?_⟩
    intro a w O hk
    have e3 : a.eval (.tmp 3) = .pointer (some ⟨b, 0, none⟩) := (hk.init 3 (initialB_of_nw nw3)).trans hi3
    have e81 : a.eval (.tmp 81) = .bool false := hk.fact 8 _ 81 rfl rfl rfl rfl
    have x3 := hk.world.still hxa (fun ⟨_, h⟩ => h.elim And.right And.right)
    exact obE_loadRow rfl e3 x3 Try.underlying24 rfl (by kernel_rfl) (wanted_of rfl rfl rfl e81) rfl
  · refine ⟨⟨fun τ => stableE_det _, leans_not⟩, ?_⟩
    intro a w O hk
    have e4 : a.eval (.tmp 4) = .pointer (some ⟨b + 1, 0, none⟩) := (hk.init 4 (initialB_of_nw nw4)).trans hi4
    have e81 : a.eval (.tmp 81) = .bool false := hk.fact 8 _ 81 rfl rfl rfl rfl
    have x4 := hk.world.still hxb (fun ⟨_, h⟩ => h.elim And.right And.right)
    exact obE_loadRow rfl e4 x4 Try.underlying24 rfl (by kernel_rfl) (wanted_of rfl rfl rfl e81) rfl
  · refine ⟨⟨fun τ => stableE_det _, leans_not⟩, ?_⟩
    intro a w O hk
    have e82 : a.eval (.tmp 82) = lvV Aa ca la := hk.fact 9 _ 82 rfl rfl rfl rfl
    have e83 : a.eval (.tmp 83) = lvV Ab cb lb := hk.fact 10 _ 83 rfl rfl rfl rfl
    have e81 : a.eval (.tmp 81) = .bool false := hk.fact 8 _ 81 rfl rfl rfl rfl
    exact obE_lvEqual rfl (wanted_of rfl rfl rfl e81) (show LvV (fun k => k < w0.heap.size) la (a.eval (.tmp 82)) w (fun _ => False) by rw [e82]; exact LvV.old hina (fun k hk' => est2_fix hk' (fun h => h) (fun h => h)) hk.fix) (show LvV (fun k => k < w0.heap.size) lb (a.eval (.tmp 83)) w (fun _ => False) by rw [e83]; exact LvV.old hinb (fun k hk' => est2_fix hk' (fun h => h) (fun h => h)) hk.fix) heq
  · refine ⟨⟨fun τ => stableE_det _, leans_not⟩, ?_⟩
    intro a w O hk
    have e84 : a.eval (.tmp 84) = .bool true := hk.fact 11 _ 84 rfl rfl rfl rfl
    have e81 : a.eval (.tmp 81) = .bool false := hk.fact 8 _ 81 rfl rfl rfl rfl
    exact toE (ob_move rfl e84 (wanted_of rfl rfl rfl e81) rfl)
  · refine ⟨⟨fun τ => stableE_det _, leans_not⟩, ?_⟩
    intro a w O hk
    have e9 : a.eval (.tmp 9) = .int .i64 x := (hk.init 9 (initialB_of_nw nw9)).trans hi9
    have e85 : a.eval (.tmp 85) = .bool true := hk.fact 12 _ 85 rfl rfl rfl rfl
    exact toE (ob_move rfl e9 (wanted_of rfl rfl rfl e85) rfl)
  · refine ⟨⟨fun τ => stableE_det _, leans_not⟩, ?_⟩
    intro a w O hk
    have e10 : a.eval (.tmp 10) = .int .i64 y := (hk.init 10 (initialB_of_nw nw10)).trans hi10
    have e85 : a.eval (.tmp 85) = .bool true := hk.fact 12 _ 85 rfl rfl rfl rfl
    exact toE (ob_move rfl e10 (wanted_of rfl rfl rfl e85) rfl)
  · refine ⟨⟨fun τ => stableE_det _, leans_not⟩, ?_⟩
    intro a w O hk
    have e86 : a.eval (.tmp 86) = .int .i64 x := hk.fact 13 _ 86 rfl rfl rfl rfl
    have e87 : a.eval (.tmp 87) = .int .i64 y := hk.fact 14 _ 87 rfl rfl rfl rfl
    have e85 : a.eval (.tmp 85) = .bool true := hk.fact 12 _ 85 rfl rfl rfl rfl
    exact toE (ob_neqInt false rfl e86 e87 (by simpa using hxe) (wanted_of rfl rfl rfl e85) rfl)
  · refine ⟨⟨fun τ => stableE_det _, leans_not⟩, ?_⟩
    intro a w O hk
    have e85 : a.eval (.tmp 85) = .bool true := hk.fact 12 _ 85 rfl rfl rfl rfl
    have e88 : a.eval (.tmp 88) = .bool false := hk.fact 15 _ 88 rfl rfl rfl rfl
    have e81 : a.eval (.tmp 81) = .bool false := hk.fact 8 _ 81 rfl rfl rfl rfl
    exact toE (ob_pick rfl e85 e88 (wanted_of rfl rfl rfl e81) rfl)
  · refine ⟨⟨fun τ => stableE_det _, leans_not⟩, ?_⟩
    intro a w O hk
    have e81 : a.eval (.tmp 81) = .bool false := hk.fact 8 _ 81 rfl rfl rfl rfl
    have e89 : a.eval (.tmp 89) = .bool false := hk.fact 16 _ 89 rfl rfl rfl rfl
    exact toE (ob_pick rfl e81 e89 (wanted_none rfl) rfl)
  · refine ⟨⟨fun τ => stableE_det _, leans_not⟩, ?_⟩
    intro a w O hk
    have e90 : a.eval (.tmp 90) = .bool false := hk.fact 17 _ 90 rfl rfl rfl rfl
    exact toE (ob_move rfl e90 (wanted_none rfl) rfl)
  · refine ⟨⟨fun τ => stableE_det _, leans_not⟩, ?_⟩
    intro a w O hk
    have e11 : a.eval (.tmp 11) = .pointer (some ⟨p, 0, none⟩) := (hk.init 11 (initialB_of_nw nw11)).trans hi11
    have e91 : a.eval (.tmp 91) = .bool false := hk.fact 18 _ 91 rfl rfl rfl rfl
    have x11 := hk.world.still hxr (fun ⟨_, h⟩ => h.elim And.right And.right)
    exact obE_loadRow rfl e11 x11 Try.underlying24 rfl (by kernel_rfl) (wanted_of rfl rfl rfl e91) rfl
  · refine ⟨⟨fun τ => stableE_det _, leans_not⟩, ?_⟩
    intro a w O hk
    have e92 : a.eval (.tmp 92) = lvV Ar cr lr := hk.fact 19 _ 92 rfl rfl rfl rfl
    have e91 : a.eval (.tmp 91) = .bool false := hk.fact 18 _ 91 rfl rfl rfl rfl
    exact obE_callV #[lvV Ar cr lr] rfl rfl rfl rfl (by simp only [List.map_cons, List.map_nil]; rw [e92]) (wanted_of rfl rfl rfl e91) (by have h := refSound_calls Ar cr lr w (LvS.all (LvS.same hinr (fun k hk' _ => hk.fix k ((fun k hk' => est2_fix hk' (fun h => h) (fun h => h)) k hk')))); rwa [hsr] at h)
  · refine ⟨⟨fun τ => stableE_det _, leans_not⟩, ?_⟩
    intro a w O hk
    have e93 : a.eval (.tmp 93) = .bool false := hk.fact 20 _ 93 rfl rfl rfl rfl
    have e91 : a.eval (.tmp 91) = .bool false := hk.fact 18 _ 91 rfl rfl rfl rfl
    exact toE (ob_move rfl e93 (wanted_of rfl rfl rfl e91) rfl)
  · refine ⟨⟨fun τ => stableE_det _, leans_not⟩, ?_⟩
    intro a w O hk
    have e11 : a.eval (.tmp 11) = .pointer (some ⟨p, 0, none⟩) := (hk.init 11 (initialB_of_nw nw11)).trans hi11
    have e94 : a.eval (.tmp 94) = .bool false := hk.fact 21 _ 94 rfl rfl rfl rfl
    exact toE (ob_skip (unwanted_of rfl rfl rfl e94 (by decide)) rfl)
  · refine ⟨⟨fun τ => stableE_det _, leans_not⟩, ?_⟩
    intro a w O hk
    have e2 : a.eval (.tmp 2) = .slice Av nv cv := (hk.init 2 (initialB_of_nw nw2)).trans hi2
    have e94 : a.eval (.tmp 94) = .bool false := hk.fact 21 _ 94 rfl rfl rfl rfl
    exact toE (ob_skip (unwanted_of rfl rfl rfl e94 (by decide)) rfl)
  · refine ⟨⟨fun τ => stableE_det _, leans_not⟩, ?_⟩
    intro a w O hk
    have e95 : a.eval (.tmp 95) = undef := hk.fact 22 _ 95 rfl rfl rfl rfl
    have e96 : a.eval (.tmp 96) = undef := hk.fact 23 _ 96 rfl rfl rfl rfl
    have e94 : a.eval (.tmp 94) = .bool false := hk.fact 21 _ 94 rfl rfl rfl rfl
    exact toE (ob_skip (unwanted_of rfl rfl rfl e94 (by decide)) rfl)
  · refine ⟨⟨fun τ => stableE_det _, leans_not⟩, ?_⟩
    intro a w O hk
    have e9 : a.eval (.tmp 9) = .int .i64 x := (hk.init 9 (initialB_of_nw nw9)).trans hi9
    have e94 : a.eval (.tmp 94) = .bool false := hk.fact 21 _ 94 rfl rfl rfl rfl
    exact toE (ob_skip (unwanted_of rfl rfl rfl e94 (by decide)) rfl)
  · refine ⟨⟨fun τ => stableE_det _, leans_not⟩, ?_⟩
    intro a w O hk
    have e97 : a.eval (.tmp 97) = undef := hk.fact 24 _ 97 rfl rfl rfl rfl
    have e98 : a.eval (.tmp 98) = undef := hk.fact 25 _ 98 rfl rfl rfl rfl
    have e94 : a.eval (.tmp 94) = .bool false := hk.fact 21 _ 94 rfl rfl rfl rfl
    exact toE (ob_skip (unwanted_of rfl rfl rfl e94 (by decide)) rfl)
  · refine ⟨⟨fun τ => stableE_det _, leans_not⟩, ?_⟩
    intro a w O hk
    have e94 : a.eval (.tmp 94) = .bool false := hk.fact 21 _ 94 rfl rfl rfl rfl
    have e99 : a.eval (.tmp 99) = undef := hk.fact 26 _ 99 rfl rfl rfl rfl
    have e91 : a.eval (.tmp 91) = .bool false := hk.fact 18 _ 91 rfl rfl rfl rfl
    exact toE (ob_pick rfl e94 rfl (wanted_of rfl rfl rfl e91) rfl)
  · refine ⟨⟨fun τ => stableE_det _, leans_not⟩, ?_⟩
    intro a w O hk
    have e91 : a.eval (.tmp 91) = .bool false := hk.fact 18 _ 91 rfl rfl rfl rfl
    have e100 : a.eval (.tmp 100) = .bool false := hk.fact 27 _ 100 rfl rfl rfl rfl
    exact toE (ob_pick rfl e91 e100 (wanted_none rfl) rfl)
set_option maxRecDepth 100000 in
set_option maxHeartbeats 8000000 in
theorem ma110_region {Q : Exit → Act → World → Prop} {id : Nat} (w0 : World) (b p : Nat) (Aa Ab Ar Av : Option Addr) (ca cb cr nv cv : Nat) (la lb lr : Lv) (vs : List Int) (x y : Int) {s0 s1 s5 s6 s7 s8 s12 s13 s14 s15 s16 s17 s18 s19 s20 s21 s22 s23 s24 s25 s26 s27 s28 s29 s30 s31 s32 s33 s34 s35 s36 s37 s38 s39 s40 s41 s42 s43 s44 s45 s46 s47 s48 s49 s50 s51 s52 s53 s54 s55 s56 s57 s58 s59 s60 s61 s62 s63 s64 s65 s66 s67 s68 s69 s70 s71 s72 s73 s74 s75 s76 s77 s78 s79 s80 s81 s82 s83 s84 s85 s86 s87 s88 s89 s90 s91 s92 s93 s94 s95 s96 s97 s98 s99 s100 s101 s102 s103 s104 s105 s106 s107 s108 s109 s110 s111 s112 s113 s114 s115 s116 s117 s118 s119 s120 s121 s122 s123 s124 s125 s126 s127 s128 s129 s130 s131 s132 : Value} (hxa : w0.heap[b]? = some (.cells #[.int .i64 la.kind, .int .i64 la.num, .slice Aa la.kids.length ca] 24 (0, 0))) (hina : LvS w0 (fun k => k < w0.heap.size) Aa ca la) (hxb : w0.heap[b + 1]? = some (.cells #[.int .i64 lb.kind, .int .i64 lb.num, .slice Ab lb.kids.length cb] 24 (0, 0))) (hinb : LvS w0 (fun k => k < w0.heap.size) Ab cb lb) (hxr : w0.heap[p]? = some (.cells #[.int .i64 lr.kind, .int .i64 lr.num, .slice Ar lr.kids.length cr] 24 (0, 0))) (hinr : LvS w0 (fun k => k < w0.heap.size) Ar cr lr) (hv : ReadsInt w0 .i64 Av nv vs) (hlq : leqP la lb = true) (hxy : decide (y < x) = false) (heq : eqP la lb = true) (hxe : x = y) (hsr : soundB lr = false)
    (hend : ∀ (w' : World), Chg (fun k => False ∨ False) w0 w' → Q .normal { tmps := (s0 :: s1 :: (.slice Av nv cv : Value) :: (.pointer (some ⟨b, 0, none⟩) : Value) :: (.pointer (some ⟨b + 1, 0, none⟩) : Value) :: s5 :: s6 :: s7 :: s8 :: (.int .i64 x : Value) :: (.int .i64 y : Value) :: (.pointer (some ⟨p, 0, none⟩) : Value) :: s12 :: s13 :: s14 :: s15 :: s16 :: s17 :: s18 :: s19 :: s20 :: s21 :: s22 :: s23 :: s24 :: s25 :: s26 :: s27 :: s28 :: s29 :: s30 :: s31 :: s32 :: s33 :: s34 :: s35 :: s36 :: s37 :: s38 :: s39 :: s40 :: s41 :: s42 :: s43 :: s44 :: s45 :: s46 :: s47 :: s48 :: s49 :: s50 :: s51 :: s52 :: s53 :: s54 :: s55 :: s56 :: s57 :: s58 :: s59 :: s60 :: s61 :: s62 :: s63 :: s64 :: s65 :: s66 :: s67 :: s68 :: s69 :: s70 :: s71 :: s72 :: (lvV Aa ca la : Value) :: (lvV Ab cb lb : Value) :: (.bool true : Value) :: (.bool true : Value) :: (.int .i64 x : Value) :: (.int .i64 y : Value) :: (.bool false : Value) :: (.bool false : Value) :: (.bool false : Value) :: (lvV Aa ca la : Value) :: (lvV Ab cb lb : Value) :: (.bool true : Value) :: (.bool true : Value) :: (.int .i64 x : Value) :: (.int .i64 y : Value) :: (.bool false : Value) :: (.bool false : Value) :: (.bool false : Value) :: (.bool false : Value) :: (lvV Ar cr lr : Value) :: (.bool false : Value) :: (.bool false : Value) :: undef :: undef :: undef :: undef :: undef :: (.bool false : Value) :: (.bool false : Value) :: s102 :: s103 :: s104 :: s105 :: s106 :: s107 :: s108 :: s109 :: s110 :: s111 :: s112 :: s113 :: s114 :: s115 :: s116 :: s117 :: s118 :: s119 :: s120 :: s121 :: s122 :: s123 :: s124 :: s125 :: s126 :: s127 :: s128 :: s129 :: s130 :: s131 :: s132 :: ([] : List Value)).toArray, defers := [] } w') :
    (Code.region id ma111_ops.toArray false).wp Try.prog Q { tmps := (s0 :: s1 :: (.slice Av nv cv : Value) :: (.pointer (some ⟨b, 0, none⟩) : Value) :: (.pointer (some ⟨b + 1, 0, none⟩) : Value) :: s5 :: s6 :: s7 :: s8 :: (.int .i64 x : Value) :: (.int .i64 y : Value) :: (.pointer (some ⟨p, 0, none⟩) : Value) :: s12 :: s13 :: s14 :: s15 :: s16 :: s17 :: s18 :: s19 :: s20 :: s21 :: s22 :: s23 :: s24 :: s25 :: s26 :: s27 :: s28 :: s29 :: s30 :: s31 :: s32 :: s33 :: s34 :: s35 :: s36 :: s37 :: s38 :: s39 :: s40 :: s41 :: s42 :: s43 :: s44 :: s45 :: s46 :: s47 :: s48 :: s49 :: s50 :: s51 :: s52 :: s53 :: s54 :: s55 :: s56 :: s57 :: s58 :: s59 :: s60 :: s61 :: s62 :: s63 :: s64 :: s65 :: s66 :: s67 :: s68 :: s69 :: s70 :: s71 :: s72 :: s73 :: s74 :: s75 :: s76 :: s77 :: s78 :: s79 :: s80 :: s81 :: s82 :: s83 :: s84 :: s85 :: s86 :: s87 :: s88 :: s89 :: s90 :: s91 :: s92 :: s93 :: s94 :: s95 :: s96 :: s97 :: s98 :: s99 :: s100 :: s101 :: s102 :: s103 :: s104 :: s105 :: s106 :: s107 :: s108 :: s109 :: s110 :: s111 :: s112 :: s113 :: s114 :: s115 :: s116 :: s117 :: s118 :: s119 :: s120 :: s121 :: s122 :: s123 :: s124 :: s125 :: s126 :: s127 :: s128 :: s129 :: s130 :: s131 :: s132 :: ([] : List Value)).toArray, defers := [] } w0 := by
  refine wp_region_est0 (est2 0 0 (fun _ => False) (fun _ => False)) ma110_C (ma110_F w0 b p Aa Ab Ar Av ca cb cr nv cv la lb lr vs x y) (est2_dis (fun _ h _ => h)) (est2_range (fun _ h => h.elim) (fun _ h => h.elim)) (by rfl) (by kernel_rfl) (ma110_obs w0 b p Aa Ab Ar Av ca cb cr nv cv la lb lr vs x y hxa hina hxb hinb hxr hinr hv hlq hxy heq hxe hsr _ _ rfl rfl rfl rfl rfl rfl) ?_
  intro a w' O hd hs hb hf hf2 ha hsame
  have hx : ∀ (qi : Nat) (qv : Value), nwB ma111_ops.toArray qi = true → (s0 :: s1 :: (.slice Av nv cv : Value) :: (.pointer (some ⟨b, 0, none⟩) : Value) :: (.pointer (some ⟨b + 1, 0, none⟩) : Value) :: s5 :: s6 :: s7 :: s8 :: (.int .i64 x : Value) :: (.int .i64 y : Value) :: (.pointer (some ⟨p, 0, none⟩) : Value) :: s12 :: s13 :: s14 :: s15 :: s16 :: s17 :: s18 :: s19 :: s20 :: s21 :: s22 :: s23 :: s24 :: s25 :: s26 :: s27 :: s28 :: s29 :: s30 :: s31 :: s32 :: s33 :: s34 :: s35 :: s36 :: s37 :: s38 :: s39 :: s40 :: s41 :: s42 :: s43 :: s44 :: s45 :: s46 :: s47 :: s48 :: s49 :: s50 :: s51 :: s52 :: s53 :: s54 :: s55 :: s56 :: s57 :: s58 :: s59 :: s60 :: s61 :: s62 :: s63 :: s64 :: s65 :: s66 :: s67 :: s68 :: s69 :: s70 :: s71 :: s72 :: s73 :: s74 :: s75 :: s76 :: s77 :: s78 :: s79 :: s80 :: s81 :: s82 :: s83 :: s84 :: s85 :: s86 :: s87 :: s88 :: s89 :: s90 :: s91 :: s92 :: s93 :: s94 :: s95 :: s96 :: s97 :: s98 :: s99 :: s100 :: s101 :: s102 :: s103 :: s104 :: s105 :: s106 :: s107 :: s108 :: s109 :: s110 :: s111 :: s112 :: s113 :: s114 :: s115 :: s116 :: s117 :: s118 :: s119 :: s120 :: s121 :: s122 :: s123 :: s124 :: s125 :: s126 :: s127 :: s128 :: s129 :: s130 :: s131 :: s132 :: ([] : List Value)).toArray.getD qi undef = qv → a.tmps.getD qi undef = qv := fun qi qv h e => (hsame qi (nwB.spec h)).trans e
  have x0 := hx 0 s0 (by kernel_rfl) rfl
  have x1 := hx 1 s1 (by kernel_rfl) rfl
  have x2 := hx 2 (.slice Av nv cv) (by kernel_rfl) rfl
  have x3 := hx 3 (.pointer (some ⟨b, 0, none⟩)) (by kernel_rfl) rfl
  have x4 := hx 4 (.pointer (some ⟨b + 1, 0, none⟩)) (by kernel_rfl) rfl
  have x5 := hx 5 s5 (by kernel_rfl) rfl
  have x6 := hx 6 s6 (by kernel_rfl) rfl
  have x7 := hx 7 s7 (by kernel_rfl) rfl
  have x8 := hx 8 s8 (by kernel_rfl) rfl
  have x9 := hx 9 (.int .i64 x) (by kernel_rfl) rfl
  have x10 := hx 10 (.int .i64 y) (by kernel_rfl) rfl
  have x11 := hx 11 (.pointer (some ⟨p, 0, none⟩)) (by kernel_rfl) rfl
  have x12 := hx 12 s12 (by kernel_rfl) rfl
  have x13 := hx 13 s13 (by kernel_rfl) rfl
  have x14 := hx 14 s14 (by kernel_rfl) rfl
  have x15 := hx 15 s15 (by kernel_rfl) rfl
  have x16 := hx 16 s16 (by kernel_rfl) rfl
  have x17 := hx 17 s17 (by kernel_rfl) rfl
  have x18 := hx 18 s18 (by kernel_rfl) rfl
  have x19 := hx 19 s19 (by kernel_rfl) rfl
  have x20 := hx 20 s20 (by kernel_rfl) rfl
  have x21 := hx 21 s21 (by kernel_rfl) rfl
  have x22 := hx 22 s22 (by kernel_rfl) rfl
  have x23 := hx 23 s23 (by kernel_rfl) rfl
  have x24 := hx 24 s24 (by kernel_rfl) rfl
  have x25 := hx 25 s25 (by kernel_rfl) rfl
  have x26 := hx 26 s26 (by kernel_rfl) rfl
  have x27 := hx 27 s27 (by kernel_rfl) rfl
  have x28 := hx 28 s28 (by kernel_rfl) rfl
  have x29 := hx 29 s29 (by kernel_rfl) rfl
  have x30 := hx 30 s30 (by kernel_rfl) rfl
  have x31 := hx 31 s31 (by kernel_rfl) rfl
  have x32 := hx 32 s32 (by kernel_rfl) rfl
  have x33 := hx 33 s33 (by kernel_rfl) rfl
  have x34 := hx 34 s34 (by kernel_rfl) rfl
  have x35 := hx 35 s35 (by kernel_rfl) rfl
  have x36 := hx 36 s36 (by kernel_rfl) rfl
  have x37 := hx 37 s37 (by kernel_rfl) rfl
  have x38 := hx 38 s38 (by kernel_rfl) rfl
  have x39 := hx 39 s39 (by kernel_rfl) rfl
  have x40 := hx 40 s40 (by kernel_rfl) rfl
  have x41 := hx 41 s41 (by kernel_rfl) rfl
  have x42 := hx 42 s42 (by kernel_rfl) rfl
  have x43 := hx 43 s43 (by kernel_rfl) rfl
  have x44 := hx 44 s44 (by kernel_rfl) rfl
  have x45 := hx 45 s45 (by kernel_rfl) rfl
  have x46 := hx 46 s46 (by kernel_rfl) rfl
  have x47 := hx 47 s47 (by kernel_rfl) rfl
  have x48 := hx 48 s48 (by kernel_rfl) rfl
  have x49 := hx 49 s49 (by kernel_rfl) rfl
  have x50 := hx 50 s50 (by kernel_rfl) rfl
  have x51 := hx 51 s51 (by kernel_rfl) rfl
  have x52 := hx 52 s52 (by kernel_rfl) rfl
  have x53 := hx 53 s53 (by kernel_rfl) rfl
  have x54 := hx 54 s54 (by kernel_rfl) rfl
  have x55 := hx 55 s55 (by kernel_rfl) rfl
  have x56 := hx 56 s56 (by kernel_rfl) rfl
  have x57 := hx 57 s57 (by kernel_rfl) rfl
  have x58 := hx 58 s58 (by kernel_rfl) rfl
  have x59 := hx 59 s59 (by kernel_rfl) rfl
  have x60 := hx 60 s60 (by kernel_rfl) rfl
  have x61 := hx 61 s61 (by kernel_rfl) rfl
  have x62 := hx 62 s62 (by kernel_rfl) rfl
  have x63 := hx 63 s63 (by kernel_rfl) rfl
  have x64 := hx 64 s64 (by kernel_rfl) rfl
  have x65 := hx 65 s65 (by kernel_rfl) rfl
  have x66 := hx 66 s66 (by kernel_rfl) rfl
  have x67 := hx 67 s67 (by kernel_rfl) rfl
  have x68 := hx 68 s68 (by kernel_rfl) rfl
  have x69 := hx 69 s69 (by kernel_rfl) rfl
  have x70 := hx 70 s70 (by kernel_rfl) rfl
  have x71 := hx 71 s71 (by kernel_rfl) rfl
  have x72 := hx 72 s72 (by kernel_rfl) rfl
  have x73 : a.tmps.getD 73 undef = lvV Aa ca la := (hf 0 _ 73 rfl rfl (by decide)).1
  have x74 : a.tmps.getD 74 undef = lvV Ab cb lb := (hf 1 _ 74 rfl rfl (by decide)).1
  have x75 : a.tmps.getD 75 undef = .bool true := (hf 2 _ 75 rfl rfl (by decide)).1
  have x76 : a.tmps.getD 76 undef = .bool true := (hf 3 _ 76 rfl rfl (by decide)).1
  have x77 : a.tmps.getD 77 undef = .int .i64 x := (hf 4 _ 77 rfl rfl (by decide)).1
  have x78 : a.tmps.getD 78 undef = .int .i64 y := (hf 5 _ 78 rfl rfl (by decide)).1
  have x79 : a.tmps.getD 79 undef = .bool false := (hf 6 _ 79 rfl rfl (by decide)).1
  have x80 : a.tmps.getD 80 undef = .bool false := (hf 7 _ 80 rfl rfl (by decide)).1
  have x81 : a.tmps.getD 81 undef = .bool false := (hf 8 _ 81 rfl rfl (by decide)).1
  have x82 : a.tmps.getD 82 undef = lvV Aa ca la := (hf 9 _ 82 rfl rfl (by decide)).1
  have x83 : a.tmps.getD 83 undef = lvV Ab cb lb := (hf 10 _ 83 rfl rfl (by decide)).1
  have x84 : a.tmps.getD 84 undef = .bool true := (hf 11 _ 84 rfl rfl (by decide)).1
  have x85 : a.tmps.getD 85 undef = .bool true := (hf 12 _ 85 rfl rfl (by decide)).1
  have x86 : a.tmps.getD 86 undef = .int .i64 x := (hf 13 _ 86 rfl rfl (by decide)).1
  have x87 : a.tmps.getD 87 undef = .int .i64 y := (hf 14 _ 87 rfl rfl (by decide)).1
  have x88 : a.tmps.getD 88 undef = .bool false := (hf 15 _ 88 rfl rfl (by decide)).1
  have x89 : a.tmps.getD 89 undef = .bool false := (hf 16 _ 89 rfl rfl (by decide)).1
  have x90 : a.tmps.getD 90 undef = .bool false := (hf 17 _ 90 rfl rfl (by decide)).1
  have x91 : a.tmps.getD 91 undef = .bool false := (hf 18 _ 91 rfl rfl (by decide)).1
  have x92 : a.tmps.getD 92 undef = lvV Ar cr lr := (hf 19 _ 92 rfl rfl (by decide)).1
  have x93 : a.tmps.getD 93 undef = .bool false := (hf 20 _ 93 rfl rfl (by decide)).1
  have x94 : a.tmps.getD 94 undef = .bool false := (hf 21 _ 94 rfl rfl (by decide)).1
  have x95 : a.tmps.getD 95 undef = undef := (hf 22 _ 95 rfl rfl (by decide)).1
  have x96 : a.tmps.getD 96 undef = undef := (hf 23 _ 96 rfl rfl (by decide)).1
  have x97 : a.tmps.getD 97 undef = undef := (hf 24 _ 97 rfl rfl (by decide)).1
  have x98 : a.tmps.getD 98 undef = undef := (hf 25 _ 98 rfl rfl (by decide)).1
  have x99 : a.tmps.getD 99 undef = undef := (hf 26 _ 99 rfl rfl (by decide)).1
  have x100 : a.tmps.getD 100 undef = .bool false := (hf 27 _ 100 rfl rfl (by decide)).1
  have x101 : a.tmps.getD 101 undef = .bool false := (hf 28 _ 101 rfl rfl (by decide)).1
  have x102 := hx 102 s102 (by kernel_rfl) rfl
  have x103 := hx 103 s103 (by kernel_rfl) rfl
  have x104 := hx 104 s104 (by kernel_rfl) rfl
  have x105 := hx 105 s105 (by kernel_rfl) rfl
  have x106 := hx 106 s106 (by kernel_rfl) rfl
  have x107 := hx 107 s107 (by kernel_rfl) rfl
  have x108 := hx 108 s108 (by kernel_rfl) rfl
  have x109 := hx 109 s109 (by kernel_rfl) rfl
  have x110 := hx 110 s110 (by kernel_rfl) rfl
  have x111 := hx 111 s111 (by kernel_rfl) rfl
  have x112 := hx 112 s112 (by kernel_rfl) rfl
  have x113 := hx 113 s113 (by kernel_rfl) rfl
  have x114 := hx 114 s114 (by kernel_rfl) rfl
  have x115 := hx 115 s115 (by kernel_rfl) rfl
  have x116 := hx 116 s116 (by kernel_rfl) rfl
  have x117 := hx 117 s117 (by kernel_rfl) rfl
  have x118 := hx 118 s118 (by kernel_rfl) rfl
  have x119 := hx 119 s119 (by kernel_rfl) rfl
  have x120 := hx 120 s120 (by kernel_rfl) rfl
  have x121 := hx 121 s121 (by kernel_rfl) rfl
  have x122 := hx 122 s122 (by kernel_rfl) rfl
  have x123 := hx 123 s123 (by kernel_rfl) rfl
  have x124 := hx 124 s124 (by kernel_rfl) rfl
  have x125 := hx 125 s125 (by kernel_rfl) rfl
  have x126 := hx 126 s126 (by kernel_rfl) rfl
  have x127 := hx 127 s127 (by kernel_rfl) rfl
  have x128 := hx 128 s128 (by kernel_rfl) rfl
  have x129 := hx 129 s129 (by kernel_rfl) rfl
  have x130 := hx 130 s130 (by kernel_rfl) rfl
  have x131 := hx 131 s131 (by kernel_rfl) rfl
  have x132 := hx 132 s132 (by kernel_rfl) rfl
  have hl : a.tmps = (s0 :: s1 :: (.slice Av nv cv : Value) :: (.pointer (some ⟨b, 0, none⟩) : Value) :: (.pointer (some ⟨b + 1, 0, none⟩) : Value) :: s5 :: s6 :: s7 :: s8 :: (.int .i64 x : Value) :: (.int .i64 y : Value) :: (.pointer (some ⟨p, 0, none⟩) : Value) :: s12 :: s13 :: s14 :: s15 :: s16 :: s17 :: s18 :: s19 :: s20 :: s21 :: s22 :: s23 :: s24 :: s25 :: s26 :: s27 :: s28 :: s29 :: s30 :: s31 :: s32 :: s33 :: s34 :: s35 :: s36 :: s37 :: s38 :: s39 :: s40 :: s41 :: s42 :: s43 :: s44 :: s45 :: s46 :: s47 :: s48 :: s49 :: s50 :: s51 :: s52 :: s53 :: s54 :: s55 :: s56 :: s57 :: s58 :: s59 :: s60 :: s61 :: s62 :: s63 :: s64 :: s65 :: s66 :: s67 :: s68 :: s69 :: s70 :: s71 :: s72 :: (lvV Aa ca la : Value) :: (lvV Ab cb lb : Value) :: (.bool true : Value) :: (.bool true : Value) :: (.int .i64 x : Value) :: (.int .i64 y : Value) :: (.bool false : Value) :: (.bool false : Value) :: (.bool false : Value) :: (lvV Aa ca la : Value) :: (lvV Ab cb lb : Value) :: (.bool true : Value) :: (.bool true : Value) :: (.int .i64 x : Value) :: (.int .i64 y : Value) :: (.bool false : Value) :: (.bool false : Value) :: (.bool false : Value) :: (.bool false : Value) :: (lvV Ar cr lr : Value) :: (.bool false : Value) :: (.bool false : Value) :: undef :: undef :: undef :: undef :: undef :: (.bool false : Value) :: (.bool false : Value) :: s102 :: s103 :: s104 :: s105 :: s106 :: s107 :: s108 :: s109 :: s110 :: s111 :: s112 :: s113 :: s114 :: s115 :: s116 :: s117 :: s118 :: s119 :: s120 :: s121 :: s122 :: s123 :: s124 :: s125 :: s126 :: s127 :: s128 :: s129 :: s130 :: s131 :: s132 :: ([] : List Value)).toArray := by
    have h := lit a.tmps 133 hs
    have e : ((List.range 133).map (fun i => a.tmps.getD i undef)).toArray = ((a.tmps.getD 0 undef : Value) :: (a.tmps.getD 1 undef : Value) :: (a.tmps.getD 2 undef : Value) :: (a.tmps.getD 3 undef : Value) :: (a.tmps.getD 4 undef : Value) :: (a.tmps.getD 5 undef : Value) :: (a.tmps.getD 6 undef : Value) :: (a.tmps.getD 7 undef : Value) :: (a.tmps.getD 8 undef : Value) :: (a.tmps.getD 9 undef : Value) :: (a.tmps.getD 10 undef : Value) :: (a.tmps.getD 11 undef : Value) :: (a.tmps.getD 12 undef : Value) :: (a.tmps.getD 13 undef : Value) :: (a.tmps.getD 14 undef : Value) :: (a.tmps.getD 15 undef : Value) :: (a.tmps.getD 16 undef : Value) :: (a.tmps.getD 17 undef : Value) :: (a.tmps.getD 18 undef : Value) :: (a.tmps.getD 19 undef : Value) :: (a.tmps.getD 20 undef : Value) :: (a.tmps.getD 21 undef : Value) :: (a.tmps.getD 22 undef : Value) :: (a.tmps.getD 23 undef : Value) :: (a.tmps.getD 24 undef : Value) :: (a.tmps.getD 25 undef : Value) :: (a.tmps.getD 26 undef : Value) :: (a.tmps.getD 27 undef : Value) :: (a.tmps.getD 28 undef : Value) :: (a.tmps.getD 29 undef : Value) :: (a.tmps.getD 30 undef : Value) :: (a.tmps.getD 31 undef : Value) :: (a.tmps.getD 32 undef : Value) :: (a.tmps.getD 33 undef : Value) :: (a.tmps.getD 34 undef : Value) :: (a.tmps.getD 35 undef : Value) :: (a.tmps.getD 36 undef : Value) :: (a.tmps.getD 37 undef : Value) :: (a.tmps.getD 38 undef : Value) :: (a.tmps.getD 39 undef : Value) :: (a.tmps.getD 40 undef : Value) :: (a.tmps.getD 41 undef : Value) :: (a.tmps.getD 42 undef : Value) :: (a.tmps.getD 43 undef : Value) :: (a.tmps.getD 44 undef : Value) :: (a.tmps.getD 45 undef : Value) :: (a.tmps.getD 46 undef : Value) :: (a.tmps.getD 47 undef : Value) :: (a.tmps.getD 48 undef : Value) :: (a.tmps.getD 49 undef : Value) :: (a.tmps.getD 50 undef : Value) :: (a.tmps.getD 51 undef : Value) :: (a.tmps.getD 52 undef : Value) :: (a.tmps.getD 53 undef : Value) :: (a.tmps.getD 54 undef : Value) :: (a.tmps.getD 55 undef : Value) :: (a.tmps.getD 56 undef : Value) :: (a.tmps.getD 57 undef : Value) :: (a.tmps.getD 58 undef : Value) :: (a.tmps.getD 59 undef : Value) :: (a.tmps.getD 60 undef : Value) :: (a.tmps.getD 61 undef : Value) :: (a.tmps.getD 62 undef : Value) :: (a.tmps.getD 63 undef : Value) :: (a.tmps.getD 64 undef : Value) :: (a.tmps.getD 65 undef : Value) :: (a.tmps.getD 66 undef : Value) :: (a.tmps.getD 67 undef : Value) :: (a.tmps.getD 68 undef : Value) :: (a.tmps.getD 69 undef : Value) :: (a.tmps.getD 70 undef : Value) :: (a.tmps.getD 71 undef : Value) :: (a.tmps.getD 72 undef : Value) :: (a.tmps.getD 73 undef : Value) :: (a.tmps.getD 74 undef : Value) :: (a.tmps.getD 75 undef : Value) :: (a.tmps.getD 76 undef : Value) :: (a.tmps.getD 77 undef : Value) :: (a.tmps.getD 78 undef : Value) :: (a.tmps.getD 79 undef : Value) :: (a.tmps.getD 80 undef : Value) :: (a.tmps.getD 81 undef : Value) :: (a.tmps.getD 82 undef : Value) :: (a.tmps.getD 83 undef : Value) :: (a.tmps.getD 84 undef : Value) :: (a.tmps.getD 85 undef : Value) :: (a.tmps.getD 86 undef : Value) :: (a.tmps.getD 87 undef : Value) :: (a.tmps.getD 88 undef : Value) :: (a.tmps.getD 89 undef : Value) :: (a.tmps.getD 90 undef : Value) :: (a.tmps.getD 91 undef : Value) :: (a.tmps.getD 92 undef : Value) :: (a.tmps.getD 93 undef : Value) :: (a.tmps.getD 94 undef : Value) :: (a.tmps.getD 95 undef : Value) :: (a.tmps.getD 96 undef : Value) :: (a.tmps.getD 97 undef : Value) :: (a.tmps.getD 98 undef : Value) :: (a.tmps.getD 99 undef : Value) :: (a.tmps.getD 100 undef : Value) :: (a.tmps.getD 101 undef : Value) :: (a.tmps.getD 102 undef : Value) :: (a.tmps.getD 103 undef : Value) :: (a.tmps.getD 104 undef : Value) :: (a.tmps.getD 105 undef : Value) :: (a.tmps.getD 106 undef : Value) :: (a.tmps.getD 107 undef : Value) :: (a.tmps.getD 108 undef : Value) :: (a.tmps.getD 109 undef : Value) :: (a.tmps.getD 110 undef : Value) :: (a.tmps.getD 111 undef : Value) :: (a.tmps.getD 112 undef : Value) :: (a.tmps.getD 113 undef : Value) :: (a.tmps.getD 114 undef : Value) :: (a.tmps.getD 115 undef : Value) :: (a.tmps.getD 116 undef : Value) :: (a.tmps.getD 117 undef : Value) :: (a.tmps.getD 118 undef : Value) :: (a.tmps.getD 119 undef : Value) :: (a.tmps.getD 120 undef : Value) :: (a.tmps.getD 121 undef : Value) :: (a.tmps.getD 122 undef : Value) :: (a.tmps.getD 123 undef : Value) :: (a.tmps.getD 124 undef : Value) :: (a.tmps.getD 125 undef : Value) :: (a.tmps.getD 126 undef : Value) :: (a.tmps.getD 127 undef : Value) :: (a.tmps.getD 128 undef : Value) :: (a.tmps.getD 129 undef : Value) :: (a.tmps.getD 130 undef : Value) :: (a.tmps.getD 131 undef : Value) :: (a.tmps.getD 132 undef : Value) :: ([] : List Value)).toArray := rfl
    rw [e, x0, x1, x2, x3, x4, x5, x6, x7, x8, x9, x10, x11, x12, x13, x14, x15, x16, x17, x18, x19, x20, x21, x22, x23, x24, x25, x26, x27, x28, x29, x30, x31, x32, x33, x34, x35, x36, x37, x38, x39, x40, x41, x42, x43, x44, x45, x46, x47, x48, x49, x50, x51, x52, x53, x54, x55, x56, x57, x58, x59, x60, x61, x62, x63, x64, x65, x66, x67, x68, x69, x70, x71, x72, x73, x74, x75, x76, x77, x78, x79, x80, x81, x82, x83, x84, x85, x86, x87, x88, x89, x90, x91, x92, x93, x94, x95, x96, x97, x98, x99, x100, x101, x102, x103, x104, x105, x106, x107, x108, x109, x110, x111, x112, x113, x114, x115, x116, x117, x118, x119, x120, x121, x122, x123, x124, x125, x126, x127, x128, x129, x130, x131, x132] at h
    exact h
  obtain ⟨tmps, defers⟩ := a
  obtain rfl : defers = [] := hd
  have hl' : tmps = _ := hl
  rw [hl']
  have hb' := est2_chg hb
  exact hend w' ⟨hb'.os, hb'.tape, hb'.output, hb'.size, hb'.block⟩

def ma101_F (w0 : World) (b p : Nat) (Aa Ab Ar Av : Option Addr) (ca cb cr nv cv : Nat) (la lb lr : Lv) (vs : List Int) (x y : Int) : Nat → (Nat → Value) → Value → World → (Nat → Prop) → Prop := fun rix => match rix with
  | 0 => fun _ v _ _ => v = lvV Aa ca la
  | 1 => fun _ v _ _ => v = lvV Ab cb lb
  | 2 => fun _ v _ _ => v = .bool true
  | 3 => fun _ v _ _ => v = .bool true
  | 4 => fun _ v _ _ => v = .int .i64 x
  | 5 => fun _ v _ _ => v = .int .i64 y
  | 6 => fun _ v _ _ => v = .bool false
  | 7 => fun _ v _ _ => v = .bool false
  | 8 => fun _ v _ _ => v = .bool false
  | 9 => fun _ v _ _ => v = lvV Aa ca la
  | 10 => fun _ v _ _ => v = lvV Ab cb lb
  | 11 => fun _ v _ _ => v = .bool false
  | 12 => fun _ v _ _ => v = .bool false
  | 13 => fun _ v _ _ => v = undef
  | 14 => fun _ v _ _ => v = undef
  | 15 => fun _ v _ _ => v = undef
  | 16 => fun _ v _ _ => v = .bool false
  | 17 => fun _ v _ _ => v = .bool false
  | 18 => fun _ v _ _ => v = .bool false
  | 19 => fun _ v _ _ => v = lvV Ar cr lr
  | 20 => fun _ v _ _ => v = .bool true
  | 21 => fun _ v _ _ => v = .bool true
  | 22 => fun _ v _ _ => v = lvV Ar cr lr
  | 23 => fun _ v _ _ => v = .slice Av nv cv
  | 24 => fun _ v _ _ => v = .int .i64 (valB vs lr)
  | 25 => fun _ v _ _ => v = .int .i64 x
  | 26 => fun _ v _ _ => v = .bool false
  | 27 => fun _ v _ _ => v = .bool false
  | 28 => fun _ v _ _ => v = .bool false
  | _ => fun _ _ _ _ => True
def ma101_C : Nat → List Nat := fun rix => match rix with
  | _ => []
theorem ma101_nw2 : nwB ma111_ops.toArray 2 = true := by kernel_rfl
theorem ma101_nw3 : nwB ma111_ops.toArray 3 = true := by kernel_rfl
theorem ma101_nw4 : nwB ma111_ops.toArray 4 = true := by kernel_rfl
theorem ma101_nw9 : nwB ma111_ops.toArray 9 = true := by kernel_rfl
theorem ma101_nw10 : nwB ma111_ops.toArray 10 = true := by kernel_rfl
theorem ma101_nw11 : nwB ma111_ops.toArray 11 = true := by kernel_rfl
set_option maxRecDepth 100000 in
set_option maxHeartbeats 8000000 in
theorem ma101_obs (w0 : World) (b p : Nat) (Aa Ab Ar Av : Option Addr) (ca cb cr nv cv : Nat) (la lb lr : Lv) (vs : List Int) (x y : Int) (hxa : w0.heap[b]? = some (.cells #[.int .i64 la.kind, .int .i64 la.num, .slice Aa la.kids.length ca] 24 (0, 0))) (hina : LvS w0 (fun k => k < w0.heap.size) Aa ca la) (hxb : w0.heap[b + 1]? = some (.cells #[.int .i64 lb.kind, .int .i64 lb.num, .slice Ab lb.kids.length cb] 24 (0, 0))) (hinb : LvS w0 (fun k => k < w0.heap.size) Ab cb lb) (hxr : w0.heap[p]? = some (.cells #[.int .i64 lr.kind, .int .i64 lr.num, .slice Ar lr.kids.length cr] 24 (0, 0))) (hinr : LvS w0 (fun k => k < w0.heap.size) Ar cr lr) (hv : ReadsInt w0 .i64 Av nv vs) (hlq : leqP la lb = true) (hxy : decide (y < x) = false) (heq : eqP la lb = false) (hsr : soundB lr = true) (hrx : valB vs lr = x) (Q : Exit → Act → World → Prop) (a0 : Act) (hi2 : a0.tmps.getD 2 undef = .slice Av nv cv) (hi3 : a0.tmps.getD 3 undef = .pointer (some ⟨b, 0, none⟩)) (hi4 : a0.tmps.getD 4 undef = .pointer (some ⟨b + 1, 0, none⟩)) (hi9 : a0.tmps.getD 9 undef = .int .i64 x) (hi10 : a0.tmps.getD 10 undef = .int .i64 y) (hi11 : a0.tmps.getD 11 undef = .pointer (some ⟨p, 0, none⟩)) :
    ObsE Try.prog ma111_ops.toArray Q (est2 0 0 (fun _ => False) (fun _ => False)) ma101_C (ma101_F w0 b p Aa Ab Ar Av ca cb cr nv cv la lb lr vs x y) a0 w0 ma111_ops.toArray.toList 0 := by
  have nw2 := ma101_nw2
  have nw3 := ma101_nw3
  have nw4 := ma101_nw4
  have nw9 := ma101_nw9
  have nw10 := ma101_nw10
  have nw11 := ma101_nw11
  refine ⟨?_, ?_, ?_, ?_, ?_, ?_, ?_, ?_, ?_, ?_, ?_, ?_, ?_, ?_, ?_, ?_, ?_, ?_, ?_, ?_, ?_, ?_, ?_, ?_, ?_, ?_, ?_, ?_, ?_, trivial⟩
  · refine ⟨⟨fun τ => stableE_det _, leans_not⟩, ?_⟩
    intro a w O hk
    have e3 : a.eval (.tmp 3) = .pointer (some ⟨b, 0, none⟩) := (hk.init 3 (initialB_of_nw nw3)).trans hi3
    have x3 := hk.world.still hxa (fun ⟨_, h⟩ => h.elim And.right And.right)
    exact obE_loadRow rfl e3 x3 Try.underlying24 rfl (by kernel_rfl) (wanted_none rfl) rfl
  · refine ⟨⟨fun τ => stableE_det _, leans_not⟩, ?_⟩
    intro a w O hk
    have e4 : a.eval (.tmp 4) = .pointer (some ⟨b + 1, 0, none⟩) := (hk.init 4 (initialB_of_nw nw4)).trans hi4
    have x4 := hk.world.still hxb (fun ⟨_, h⟩ => h.elim And.right And.right)
    exact obE_loadRow rfl e4 x4 Try.underlying24 rfl (by kernel_rfl) (wanted_none rfl) rfl
  · refine ⟨⟨fun τ => stableE_det _, leans_not⟩, ?_⟩
    intro a w O hk
    have e73 : a.eval (.tmp 73) = lvV Aa ca la := hk.fact 0 _ 73 rfl rfl rfl rfl
    have e74 : a.eval (.tmp 74) = lvV Ab cb lb := hk.fact 1 _ 74 rfl rfl rfl rfl
    exact obE_lvLeq rfl (wanted_none rfl) (show LvV (fun k => k < w0.heap.size) la (a.eval (.tmp 73)) w (fun _ => False) by rw [e73]; exact LvV.old hina (fun k hk' => est2_fix hk' (fun h => h) (fun h => h)) hk.fix) (show LvV (fun k => k < w0.heap.size) lb (a.eval (.tmp 74)) w (fun _ => False) by rw [e74]; exact LvV.old hinb (fun k hk' => est2_fix hk' (fun h => h) (fun h => h)) hk.fix) hlq
  · refine ⟨⟨fun τ => stableE_det _, leans_not⟩, ?_⟩
    intro a w O hk
    have e75 : a.eval (.tmp 75) = .bool true := hk.fact 2 _ 75 rfl rfl rfl rfl
    exact toE (ob_move rfl e75 (wanted_none rfl) rfl)
  · refine ⟨⟨fun τ => stableE_det _, leans_not⟩, ?_⟩
    intro a w O hk
    have e9 : a.eval (.tmp 9) = .int .i64 x := (hk.init 9 (initialB_of_nw nw9)).trans hi9
    have e76 : a.eval (.tmp 76) = .bool true := hk.fact 3 _ 76 rfl rfl rfl rfl
    exact toE (ob_move rfl e9 (wanted_of rfl rfl rfl e76) rfl)
  · refine ⟨⟨fun τ => stableE_det _, leans_not⟩, ?_⟩
    intro a w O hk
    have e10 : a.eval (.tmp 10) = .int .i64 y := (hk.init 10 (initialB_of_nw nw10)).trans hi10
    have e76 : a.eval (.tmp 76) = .bool true := hk.fact 3 _ 76 rfl rfl rfl rfl
    exact toE (ob_move rfl e10 (wanted_of rfl rfl rfl e76) rfl)
  · refine ⟨⟨fun τ => stableE_det _, leans_not⟩, ?_⟩
    intro a w O hk
    have e77 : a.eval (.tmp 77) = .int .i64 x := hk.fact 4 _ 77 rfl rfl rfl rfl
    have e78 : a.eval (.tmp 78) = .int .i64 y := hk.fact 5 _ 78 rfl rfl rfl rfl
    have e76 : a.eval (.tmp 76) = .bool true := hk.fact 3 _ 76 rfl rfl rfl rfl
    exact toE (ob_bin rfl e77 e78 (run_gtrB _ _ false hxy) (by decide) (wanted_of rfl rfl rfl e76) rfl)
  · refine ⟨⟨fun τ => stableE_det _, leans_not⟩, ?_⟩
    intro a w O hk
    have e76 : a.eval (.tmp 76) = .bool true := hk.fact 3 _ 76 rfl rfl rfl rfl
    have e79 : a.eval (.tmp 79) = .bool false := hk.fact 6 _ 79 rfl rfl rfl rfl
    exact toE (ob_pick rfl e76 e79 (wanted_none rfl) rfl)
  · refine ⟨⟨fun τ => stableE_det _, leans_not⟩, ?_⟩
    intro a w O hk
    have e80 : a.eval (.tmp 80) = .bool false := hk.fact 7 _ 80 rfl rfl rfl rfl
    exact toE (ob_move rfl e80 (wanted_none rfl) rfl)
  · refine ⟨⟨fun τ => stableE_det _, leans_not⟩, ?_⟩
    intro a w O hk
    have e3 : a.eval (.tmp 3) = .pointer (some ⟨b, 0, none⟩) := (hk.init 3 (initialB_of_nw nw3)).trans hi3
    have e81 : a.eval (.tmp 81) = .bool false := hk.fact 8 _ 81 rfl rfl rfl rfl
    have x3 := hk.world.still hxa (fun ⟨_, h⟩ => h.elim And.right And.right)
    exact obE_loadRow rfl e3 x3 Try.underlying24 rfl (by kernel_rfl) (wanted_of rfl rfl rfl e81) rfl
  · refine ⟨⟨fun τ => stableE_det _, leans_not⟩, ?_⟩
    intro a w O hk
    have e4 : a.eval (.tmp 4) = .pointer (some ⟨b + 1, 0, none⟩) := (hk.init 4 (initialB_of_nw nw4)).trans hi4
    have e81 : a.eval (.tmp 81) = .bool false := hk.fact 8 _ 81 rfl rfl rfl rfl
    have x4 := hk.world.still hxb (fun ⟨_, h⟩ => h.elim And.right And.right)
    exact obE_loadRow rfl e4 x4 Try.underlying24 rfl (by kernel_rfl) (wanted_of rfl rfl rfl e81) rfl
  · refine ⟨⟨fun τ => stableE_det _, leans_not⟩, ?_⟩
    intro a w O hk
    have e82 : a.eval (.tmp 82) = lvV Aa ca la := hk.fact 9 _ 82 rfl rfl rfl rfl
    have e83 : a.eval (.tmp 83) = lvV Ab cb lb := hk.fact 10 _ 83 rfl rfl rfl rfl
    have e81 : a.eval (.tmp 81) = .bool false := hk.fact 8 _ 81 rfl rfl rfl rfl
    exact obE_lvEqual rfl (wanted_of rfl rfl rfl e81) (show LvV (fun k => k < w0.heap.size) la (a.eval (.tmp 82)) w (fun _ => False) by rw [e82]; exact LvV.old hina (fun k hk' => est2_fix hk' (fun h => h) (fun h => h)) hk.fix) (show LvV (fun k => k < w0.heap.size) lb (a.eval (.tmp 83)) w (fun _ => False) by rw [e83]; exact LvV.old hinb (fun k hk' => est2_fix hk' (fun h => h) (fun h => h)) hk.fix) heq
  · refine ⟨⟨fun τ => stableE_det _, leans_not⟩, ?_⟩
    intro a w O hk
    have e84 : a.eval (.tmp 84) = .bool false := hk.fact 11 _ 84 rfl rfl rfl rfl
    have e81 : a.eval (.tmp 81) = .bool false := hk.fact 8 _ 81 rfl rfl rfl rfl
    exact toE (ob_move rfl e84 (wanted_of rfl rfl rfl e81) rfl)
  · refine ⟨⟨fun τ => stableE_det _, leans_not⟩, ?_⟩
    intro a w O hk
    have e9 : a.eval (.tmp 9) = .int .i64 x := (hk.init 9 (initialB_of_nw nw9)).trans hi9
    have e85 : a.eval (.tmp 85) = .bool false := hk.fact 12 _ 85 rfl rfl rfl rfl
    exact toE (ob_skip (unwanted_of rfl rfl rfl e85 (by decide)) rfl)
  · refine ⟨⟨fun τ => stableE_det _, leans_not⟩, ?_⟩
    intro a w O hk
    have e10 : a.eval (.tmp 10) = .int .i64 y := (hk.init 10 (initialB_of_nw nw10)).trans hi10
    have e85 : a.eval (.tmp 85) = .bool false := hk.fact 12 _ 85 rfl rfl rfl rfl
    exact toE (ob_skip (unwanted_of rfl rfl rfl e85 (by decide)) rfl)
  · refine ⟨⟨fun τ => stableE_det _, leans_not⟩, ?_⟩
    intro a w O hk
    have e86 : a.eval (.tmp 86) = undef := hk.fact 13 _ 86 rfl rfl rfl rfl
    have e87 : a.eval (.tmp 87) = undef := hk.fact 14 _ 87 rfl rfl rfl rfl
    have e85 : a.eval (.tmp 85) = .bool false := hk.fact 12 _ 85 rfl rfl rfl rfl
    exact toE (ob_skip (unwanted_of rfl rfl rfl e85 (by decide)) rfl)
  · refine ⟨⟨fun τ => stableE_det _, leans_not⟩, ?_⟩
    intro a w O hk
    have e85 : a.eval (.tmp 85) = .bool false := hk.fact 12 _ 85 rfl rfl rfl rfl
    have e88 : a.eval (.tmp 88) = undef := hk.fact 15 _ 88 rfl rfl rfl rfl
    have e81 : a.eval (.tmp 81) = .bool false := hk.fact 8 _ 81 rfl rfl rfl rfl
    exact toE (ob_pick rfl e85 rfl (wanted_of rfl rfl rfl e81) rfl)
  · refine ⟨⟨fun τ => stableE_det _, leans_not⟩, ?_⟩
    intro a w O hk
    have e81 : a.eval (.tmp 81) = .bool false := hk.fact 8 _ 81 rfl rfl rfl rfl
    have e89 : a.eval (.tmp 89) = .bool false := hk.fact 16 _ 89 rfl rfl rfl rfl
    exact toE (ob_pick rfl e81 e89 (wanted_none rfl) rfl)
  · refine ⟨⟨fun τ => stableE_det _, leans_not⟩, ?_⟩
    intro a w O hk
    have e90 : a.eval (.tmp 90) = .bool false := hk.fact 17 _ 90 rfl rfl rfl rfl
    exact toE (ob_move rfl e90 (wanted_none rfl) rfl)
  · refine ⟨⟨fun τ => stableE_det _, leans_not⟩, ?_⟩
    intro a w O hk
    have e11 : a.eval (.tmp 11) = .pointer (some ⟨p, 0, none⟩) := (hk.init 11 (initialB_of_nw nw11)).trans hi11
    have e91 : a.eval (.tmp 91) = .bool false := hk.fact 18 _ 91 rfl rfl rfl rfl
    have x11 := hk.world.still hxr (fun ⟨_, h⟩ => h.elim And.right And.right)
    exact obE_loadRow rfl e11 x11 Try.underlying24 rfl (by kernel_rfl) (wanted_of rfl rfl rfl e91) rfl
  · refine ⟨⟨fun τ => stableE_det _, leans_not⟩, ?_⟩
    intro a w O hk
    have e92 : a.eval (.tmp 92) = lvV Ar cr lr := hk.fact 19 _ 92 rfl rfl rfl rfl
    have e91 : a.eval (.tmp 91) = .bool false := hk.fact 18 _ 91 rfl rfl rfl rfl
    exact obE_callV #[lvV Ar cr lr] rfl rfl rfl rfl (by simp only [List.map_cons, List.map_nil]; rw [e92]) (wanted_of rfl rfl rfl e91) (by have h := refSound_calls Ar cr lr w (LvS.all (LvS.same hinr (fun k hk' _ => hk.fix k ((fun k hk' => est2_fix hk' (fun h => h) (fun h => h)) k hk')))); rwa [hsr] at h)
  · refine ⟨⟨fun τ => stableE_det _, leans_not⟩, ?_⟩
    intro a w O hk
    have e93 : a.eval (.tmp 93) = .bool true := hk.fact 20 _ 93 rfl rfl rfl rfl
    have e91 : a.eval (.tmp 91) = .bool false := hk.fact 18 _ 91 rfl rfl rfl rfl
    exact toE (ob_move rfl e93 (wanted_of rfl rfl rfl e91) rfl)
  · refine ⟨⟨fun τ => stableE_det _, leans_not⟩, ?_⟩
    intro a w O hk
    have e11 : a.eval (.tmp 11) = .pointer (some ⟨p, 0, none⟩) := (hk.init 11 (initialB_of_nw nw11)).trans hi11
    have e94 : a.eval (.tmp 94) = .bool true := hk.fact 21 _ 94 rfl rfl rfl rfl
    have x11 := hk.world.still hxr (fun ⟨_, h⟩ => h.elim And.right And.right)
    exact obE_loadRow rfl e11 x11 Try.underlying24 rfl (by kernel_rfl) (wanted_of rfl rfl rfl e94) rfl
  · refine ⟨⟨fun τ => stableE_det _, leans_not⟩, ?_⟩
    intro a w O hk
    have e2 : a.eval (.tmp 2) = .slice Av nv cv := (hk.init 2 (initialB_of_nw nw2)).trans hi2
    have e94 : a.eval (.tmp 94) = .bool true := hk.fact 21 _ 94 rfl rfl rfl rfl
    exact toE (ob_move rfl e2 (wanted_of rfl rfl rfl e94) rfl)
  · refine ⟨⟨fun τ => stableE_det _, leans_not⟩, ?_⟩
    intro a w O hk
    have e95 : a.eval (.tmp 95) = lvV Ar cr lr := hk.fact 22 _ 95 rfl rfl rfl rfl
    have e96 : a.eval (.tmp 96) = .slice Av nv cv := hk.fact 23 _ 96 rfl rfl rfl rfl
    have e94 : a.eval (.tmp 94) = .bool true := hk.fact 21 _ 94 rfl rfl rfl rfl
    exact obE_callV #[lvV Ar cr lr, .slice Av nv cv] rfl rfl rfl rfl (by simp only [List.map_cons, List.map_nil]; rw [e95, e96]) (wanted_of rfl rfl rfl e94) (value_calls Ar Av cr nv cv lr vs w (LvS.all (LvS.same hinr (fun k hk' _ => hk.fix k ((fun k hk' => est2_fix hk' (fun h => h) (fun h => h)) k hk')))) (ReadsInt.still hv fun k hk' => hk.fix k (est2_fix hk' (fun h => h) (fun h => h))))
  · refine ⟨⟨fun τ => stableE_det _, leans_not⟩, ?_⟩
    intro a w O hk
    have e9 : a.eval (.tmp 9) = .int .i64 x := (hk.init 9 (initialB_of_nw nw9)).trans hi9
    have e94 : a.eval (.tmp 94) = .bool true := hk.fact 21 _ 94 rfl rfl rfl rfl
    exact toE (ob_move rfl e9 (wanted_of rfl rfl rfl e94) rfl)
  · refine ⟨⟨fun τ => stableE_det _, leans_not⟩, ?_⟩
    intro a w O hk
    have e97 : a.eval (.tmp 97) = .int .i64 (valB vs lr) := hk.fact 24 _ 97 rfl rfl rfl rfl
    have e98 : a.eval (.tmp 98) = .int .i64 x := hk.fact 25 _ 98 rfl rfl rfl rfl
    have e94 : a.eval (.tmp 94) = .bool true := hk.fact 21 _ 94 rfl rfl rfl rfl
    exact toE (ob_neqInt false rfl e97 e98 (by simpa using hrx) (wanted_of rfl rfl rfl e94) rfl)
  · refine ⟨⟨fun τ => stableE_det _, leans_not⟩, ?_⟩
    intro a w O hk
    have e94 : a.eval (.tmp 94) = .bool true := hk.fact 21 _ 94 rfl rfl rfl rfl
    have e99 : a.eval (.tmp 99) = .bool false := hk.fact 26 _ 99 rfl rfl rfl rfl
    have e91 : a.eval (.tmp 91) = .bool false := hk.fact 18 _ 91 rfl rfl rfl rfl
    exact toE (ob_pick rfl e94 e99 (wanted_of rfl rfl rfl e91) rfl)
  · refine ⟨⟨fun τ => stableE_det _, leans_not⟩, ?_⟩
    intro a w O hk
    have e91 : a.eval (.tmp 91) = .bool false := hk.fact 18 _ 91 rfl rfl rfl rfl
    have e100 : a.eval (.tmp 100) = .bool false := hk.fact 27 _ 100 rfl rfl rfl rfl
    exact toE (ob_pick rfl e91 e100 (wanted_none rfl) rfl)
set_option maxRecDepth 100000 in
set_option maxHeartbeats 8000000 in
theorem ma101_region {Q : Exit → Act → World → Prop} {id : Nat} (w0 : World) (b p : Nat) (Aa Ab Ar Av : Option Addr) (ca cb cr nv cv : Nat) (la lb lr : Lv) (vs : List Int) (x y : Int) {s0 s1 s5 s6 s7 s8 s12 s13 s14 s15 s16 s17 s18 s19 s20 s21 s22 s23 s24 s25 s26 s27 s28 s29 s30 s31 s32 s33 s34 s35 s36 s37 s38 s39 s40 s41 s42 s43 s44 s45 s46 s47 s48 s49 s50 s51 s52 s53 s54 s55 s56 s57 s58 s59 s60 s61 s62 s63 s64 s65 s66 s67 s68 s69 s70 s71 s72 s73 s74 s75 s76 s77 s78 s79 s80 s81 s82 s83 s84 s85 s86 s87 s88 s89 s90 s91 s92 s93 s94 s95 s96 s97 s98 s99 s100 s101 s102 s103 s104 s105 s106 s107 s108 s109 s110 s111 s112 s113 s114 s115 s116 s117 s118 s119 s120 s121 s122 s123 s124 s125 s126 s127 s128 s129 s130 s131 s132 : Value} (hxa : w0.heap[b]? = some (.cells #[.int .i64 la.kind, .int .i64 la.num, .slice Aa la.kids.length ca] 24 (0, 0))) (hina : LvS w0 (fun k => k < w0.heap.size) Aa ca la) (hxb : w0.heap[b + 1]? = some (.cells #[.int .i64 lb.kind, .int .i64 lb.num, .slice Ab lb.kids.length cb] 24 (0, 0))) (hinb : LvS w0 (fun k => k < w0.heap.size) Ab cb lb) (hxr : w0.heap[p]? = some (.cells #[.int .i64 lr.kind, .int .i64 lr.num, .slice Ar lr.kids.length cr] 24 (0, 0))) (hinr : LvS w0 (fun k => k < w0.heap.size) Ar cr lr) (hv : ReadsInt w0 .i64 Av nv vs) (hlq : leqP la lb = true) (hxy : decide (y < x) = false) (heq : eqP la lb = false) (hsr : soundB lr = true) (hrx : valB vs lr = x)
    (hend : ∀ (w' : World), Chg (fun k => False ∨ False) w0 w' → Q .normal { tmps := (s0 :: s1 :: (.slice Av nv cv : Value) :: (.pointer (some ⟨b, 0, none⟩) : Value) :: (.pointer (some ⟨b + 1, 0, none⟩) : Value) :: s5 :: s6 :: s7 :: s8 :: (.int .i64 x : Value) :: (.int .i64 y : Value) :: (.pointer (some ⟨p, 0, none⟩) : Value) :: s12 :: s13 :: s14 :: s15 :: s16 :: s17 :: s18 :: s19 :: s20 :: s21 :: s22 :: s23 :: s24 :: s25 :: s26 :: s27 :: s28 :: s29 :: s30 :: s31 :: s32 :: s33 :: s34 :: s35 :: s36 :: s37 :: s38 :: s39 :: s40 :: s41 :: s42 :: s43 :: s44 :: s45 :: s46 :: s47 :: s48 :: s49 :: s50 :: s51 :: s52 :: s53 :: s54 :: s55 :: s56 :: s57 :: s58 :: s59 :: s60 :: s61 :: s62 :: s63 :: s64 :: s65 :: s66 :: s67 :: s68 :: s69 :: s70 :: s71 :: s72 :: (lvV Aa ca la : Value) :: (lvV Ab cb lb : Value) :: (.bool true : Value) :: (.bool true : Value) :: (.int .i64 x : Value) :: (.int .i64 y : Value) :: (.bool false : Value) :: (.bool false : Value) :: (.bool false : Value) :: (lvV Aa ca la : Value) :: (lvV Ab cb lb : Value) :: (.bool false : Value) :: (.bool false : Value) :: undef :: undef :: undef :: (.bool false : Value) :: (.bool false : Value) :: (.bool false : Value) :: (lvV Ar cr lr : Value) :: (.bool true : Value) :: (.bool true : Value) :: (lvV Ar cr lr : Value) :: (.slice Av nv cv : Value) :: (.int .i64 (valB vs lr) : Value) :: (.int .i64 x : Value) :: (.bool false : Value) :: (.bool false : Value) :: (.bool false : Value) :: s102 :: s103 :: s104 :: s105 :: s106 :: s107 :: s108 :: s109 :: s110 :: s111 :: s112 :: s113 :: s114 :: s115 :: s116 :: s117 :: s118 :: s119 :: s120 :: s121 :: s122 :: s123 :: s124 :: s125 :: s126 :: s127 :: s128 :: s129 :: s130 :: s131 :: s132 :: ([] : List Value)).toArray, defers := [] } w') :
    (Code.region id ma111_ops.toArray false).wp Try.prog Q { tmps := (s0 :: s1 :: (.slice Av nv cv : Value) :: (.pointer (some ⟨b, 0, none⟩) : Value) :: (.pointer (some ⟨b + 1, 0, none⟩) : Value) :: s5 :: s6 :: s7 :: s8 :: (.int .i64 x : Value) :: (.int .i64 y : Value) :: (.pointer (some ⟨p, 0, none⟩) : Value) :: s12 :: s13 :: s14 :: s15 :: s16 :: s17 :: s18 :: s19 :: s20 :: s21 :: s22 :: s23 :: s24 :: s25 :: s26 :: s27 :: s28 :: s29 :: s30 :: s31 :: s32 :: s33 :: s34 :: s35 :: s36 :: s37 :: s38 :: s39 :: s40 :: s41 :: s42 :: s43 :: s44 :: s45 :: s46 :: s47 :: s48 :: s49 :: s50 :: s51 :: s52 :: s53 :: s54 :: s55 :: s56 :: s57 :: s58 :: s59 :: s60 :: s61 :: s62 :: s63 :: s64 :: s65 :: s66 :: s67 :: s68 :: s69 :: s70 :: s71 :: s72 :: s73 :: s74 :: s75 :: s76 :: s77 :: s78 :: s79 :: s80 :: s81 :: s82 :: s83 :: s84 :: s85 :: s86 :: s87 :: s88 :: s89 :: s90 :: s91 :: s92 :: s93 :: s94 :: s95 :: s96 :: s97 :: s98 :: s99 :: s100 :: s101 :: s102 :: s103 :: s104 :: s105 :: s106 :: s107 :: s108 :: s109 :: s110 :: s111 :: s112 :: s113 :: s114 :: s115 :: s116 :: s117 :: s118 :: s119 :: s120 :: s121 :: s122 :: s123 :: s124 :: s125 :: s126 :: s127 :: s128 :: s129 :: s130 :: s131 :: s132 :: ([] : List Value)).toArray, defers := [] } w0 := by
  refine wp_region_est0 (est2 0 0 (fun _ => False) (fun _ => False)) ma101_C (ma101_F w0 b p Aa Ab Ar Av ca cb cr nv cv la lb lr vs x y) (est2_dis (fun _ h _ => h)) (est2_range (fun _ h => h.elim) (fun _ h => h.elim)) (by rfl) (by kernel_rfl) (ma101_obs w0 b p Aa Ab Ar Av ca cb cr nv cv la lb lr vs x y hxa hina hxb hinb hxr hinr hv hlq hxy heq hsr hrx _ _ rfl rfl rfl rfl rfl rfl) ?_
  intro a w' O hd hs hb hf hf2 ha hsame
  have hx : ∀ (qi : Nat) (qv : Value), nwB ma111_ops.toArray qi = true → (s0 :: s1 :: (.slice Av nv cv : Value) :: (.pointer (some ⟨b, 0, none⟩) : Value) :: (.pointer (some ⟨b + 1, 0, none⟩) : Value) :: s5 :: s6 :: s7 :: s8 :: (.int .i64 x : Value) :: (.int .i64 y : Value) :: (.pointer (some ⟨p, 0, none⟩) : Value) :: s12 :: s13 :: s14 :: s15 :: s16 :: s17 :: s18 :: s19 :: s20 :: s21 :: s22 :: s23 :: s24 :: s25 :: s26 :: s27 :: s28 :: s29 :: s30 :: s31 :: s32 :: s33 :: s34 :: s35 :: s36 :: s37 :: s38 :: s39 :: s40 :: s41 :: s42 :: s43 :: s44 :: s45 :: s46 :: s47 :: s48 :: s49 :: s50 :: s51 :: s52 :: s53 :: s54 :: s55 :: s56 :: s57 :: s58 :: s59 :: s60 :: s61 :: s62 :: s63 :: s64 :: s65 :: s66 :: s67 :: s68 :: s69 :: s70 :: s71 :: s72 :: s73 :: s74 :: s75 :: s76 :: s77 :: s78 :: s79 :: s80 :: s81 :: s82 :: s83 :: s84 :: s85 :: s86 :: s87 :: s88 :: s89 :: s90 :: s91 :: s92 :: s93 :: s94 :: s95 :: s96 :: s97 :: s98 :: s99 :: s100 :: s101 :: s102 :: s103 :: s104 :: s105 :: s106 :: s107 :: s108 :: s109 :: s110 :: s111 :: s112 :: s113 :: s114 :: s115 :: s116 :: s117 :: s118 :: s119 :: s120 :: s121 :: s122 :: s123 :: s124 :: s125 :: s126 :: s127 :: s128 :: s129 :: s130 :: s131 :: s132 :: ([] : List Value)).toArray.getD qi undef = qv → a.tmps.getD qi undef = qv := fun qi qv h e => (hsame qi (nwB.spec h)).trans e
  have x0 := hx 0 s0 (by kernel_rfl) rfl
  have x1 := hx 1 s1 (by kernel_rfl) rfl
  have x2 := hx 2 (.slice Av nv cv) (by kernel_rfl) rfl
  have x3 := hx 3 (.pointer (some ⟨b, 0, none⟩)) (by kernel_rfl) rfl
  have x4 := hx 4 (.pointer (some ⟨b + 1, 0, none⟩)) (by kernel_rfl) rfl
  have x5 := hx 5 s5 (by kernel_rfl) rfl
  have x6 := hx 6 s6 (by kernel_rfl) rfl
  have x7 := hx 7 s7 (by kernel_rfl) rfl
  have x8 := hx 8 s8 (by kernel_rfl) rfl
  have x9 := hx 9 (.int .i64 x) (by kernel_rfl) rfl
  have x10 := hx 10 (.int .i64 y) (by kernel_rfl) rfl
  have x11 := hx 11 (.pointer (some ⟨p, 0, none⟩)) (by kernel_rfl) rfl
  have x12 := hx 12 s12 (by kernel_rfl) rfl
  have x13 := hx 13 s13 (by kernel_rfl) rfl
  have x14 := hx 14 s14 (by kernel_rfl) rfl
  have x15 := hx 15 s15 (by kernel_rfl) rfl
  have x16 := hx 16 s16 (by kernel_rfl) rfl
  have x17 := hx 17 s17 (by kernel_rfl) rfl
  have x18 := hx 18 s18 (by kernel_rfl) rfl
  have x19 := hx 19 s19 (by kernel_rfl) rfl
  have x20 := hx 20 s20 (by kernel_rfl) rfl
  have x21 := hx 21 s21 (by kernel_rfl) rfl
  have x22 := hx 22 s22 (by kernel_rfl) rfl
  have x23 := hx 23 s23 (by kernel_rfl) rfl
  have x24 := hx 24 s24 (by kernel_rfl) rfl
  have x25 := hx 25 s25 (by kernel_rfl) rfl
  have x26 := hx 26 s26 (by kernel_rfl) rfl
  have x27 := hx 27 s27 (by kernel_rfl) rfl
  have x28 := hx 28 s28 (by kernel_rfl) rfl
  have x29 := hx 29 s29 (by kernel_rfl) rfl
  have x30 := hx 30 s30 (by kernel_rfl) rfl
  have x31 := hx 31 s31 (by kernel_rfl) rfl
  have x32 := hx 32 s32 (by kernel_rfl) rfl
  have x33 := hx 33 s33 (by kernel_rfl) rfl
  have x34 := hx 34 s34 (by kernel_rfl) rfl
  have x35 := hx 35 s35 (by kernel_rfl) rfl
  have x36 := hx 36 s36 (by kernel_rfl) rfl
  have x37 := hx 37 s37 (by kernel_rfl) rfl
  have x38 := hx 38 s38 (by kernel_rfl) rfl
  have x39 := hx 39 s39 (by kernel_rfl) rfl
  have x40 := hx 40 s40 (by kernel_rfl) rfl
  have x41 := hx 41 s41 (by kernel_rfl) rfl
  have x42 := hx 42 s42 (by kernel_rfl) rfl
  have x43 := hx 43 s43 (by kernel_rfl) rfl
  have x44 := hx 44 s44 (by kernel_rfl) rfl
  have x45 := hx 45 s45 (by kernel_rfl) rfl
  have x46 := hx 46 s46 (by kernel_rfl) rfl
  have x47 := hx 47 s47 (by kernel_rfl) rfl
  have x48 := hx 48 s48 (by kernel_rfl) rfl
  have x49 := hx 49 s49 (by kernel_rfl) rfl
  have x50 := hx 50 s50 (by kernel_rfl) rfl
  have x51 := hx 51 s51 (by kernel_rfl) rfl
  have x52 := hx 52 s52 (by kernel_rfl) rfl
  have x53 := hx 53 s53 (by kernel_rfl) rfl
  have x54 := hx 54 s54 (by kernel_rfl) rfl
  have x55 := hx 55 s55 (by kernel_rfl) rfl
  have x56 := hx 56 s56 (by kernel_rfl) rfl
  have x57 := hx 57 s57 (by kernel_rfl) rfl
  have x58 := hx 58 s58 (by kernel_rfl) rfl
  have x59 := hx 59 s59 (by kernel_rfl) rfl
  have x60 := hx 60 s60 (by kernel_rfl) rfl
  have x61 := hx 61 s61 (by kernel_rfl) rfl
  have x62 := hx 62 s62 (by kernel_rfl) rfl
  have x63 := hx 63 s63 (by kernel_rfl) rfl
  have x64 := hx 64 s64 (by kernel_rfl) rfl
  have x65 := hx 65 s65 (by kernel_rfl) rfl
  have x66 := hx 66 s66 (by kernel_rfl) rfl
  have x67 := hx 67 s67 (by kernel_rfl) rfl
  have x68 := hx 68 s68 (by kernel_rfl) rfl
  have x69 := hx 69 s69 (by kernel_rfl) rfl
  have x70 := hx 70 s70 (by kernel_rfl) rfl
  have x71 := hx 71 s71 (by kernel_rfl) rfl
  have x72 := hx 72 s72 (by kernel_rfl) rfl
  have x73 : a.tmps.getD 73 undef = lvV Aa ca la := (hf 0 _ 73 rfl rfl (by decide)).1
  have x74 : a.tmps.getD 74 undef = lvV Ab cb lb := (hf 1 _ 74 rfl rfl (by decide)).1
  have x75 : a.tmps.getD 75 undef = .bool true := (hf 2 _ 75 rfl rfl (by decide)).1
  have x76 : a.tmps.getD 76 undef = .bool true := (hf 3 _ 76 rfl rfl (by decide)).1
  have x77 : a.tmps.getD 77 undef = .int .i64 x := (hf 4 _ 77 rfl rfl (by decide)).1
  have x78 : a.tmps.getD 78 undef = .int .i64 y := (hf 5 _ 78 rfl rfl (by decide)).1
  have x79 : a.tmps.getD 79 undef = .bool false := (hf 6 _ 79 rfl rfl (by decide)).1
  have x80 : a.tmps.getD 80 undef = .bool false := (hf 7 _ 80 rfl rfl (by decide)).1
  have x81 : a.tmps.getD 81 undef = .bool false := (hf 8 _ 81 rfl rfl (by decide)).1
  have x82 : a.tmps.getD 82 undef = lvV Aa ca la := (hf 9 _ 82 rfl rfl (by decide)).1
  have x83 : a.tmps.getD 83 undef = lvV Ab cb lb := (hf 10 _ 83 rfl rfl (by decide)).1
  have x84 : a.tmps.getD 84 undef = .bool false := (hf 11 _ 84 rfl rfl (by decide)).1
  have x85 : a.tmps.getD 85 undef = .bool false := (hf 12 _ 85 rfl rfl (by decide)).1
  have x86 : a.tmps.getD 86 undef = undef := (hf 13 _ 86 rfl rfl (by decide)).1
  have x87 : a.tmps.getD 87 undef = undef := (hf 14 _ 87 rfl rfl (by decide)).1
  have x88 : a.tmps.getD 88 undef = undef := (hf 15 _ 88 rfl rfl (by decide)).1
  have x89 : a.tmps.getD 89 undef = .bool false := (hf 16 _ 89 rfl rfl (by decide)).1
  have x90 : a.tmps.getD 90 undef = .bool false := (hf 17 _ 90 rfl rfl (by decide)).1
  have x91 : a.tmps.getD 91 undef = .bool false := (hf 18 _ 91 rfl rfl (by decide)).1
  have x92 : a.tmps.getD 92 undef = lvV Ar cr lr := (hf 19 _ 92 rfl rfl (by decide)).1
  have x93 : a.tmps.getD 93 undef = .bool true := (hf 20 _ 93 rfl rfl (by decide)).1
  have x94 : a.tmps.getD 94 undef = .bool true := (hf 21 _ 94 rfl rfl (by decide)).1
  have x95 : a.tmps.getD 95 undef = lvV Ar cr lr := (hf 22 _ 95 rfl rfl (by decide)).1
  have x96 : a.tmps.getD 96 undef = .slice Av nv cv := (hf 23 _ 96 rfl rfl (by decide)).1
  have x97 : a.tmps.getD 97 undef = .int .i64 (valB vs lr) := (hf 24 _ 97 rfl rfl (by decide)).1
  have x98 : a.tmps.getD 98 undef = .int .i64 x := (hf 25 _ 98 rfl rfl (by decide)).1
  have x99 : a.tmps.getD 99 undef = .bool false := (hf 26 _ 99 rfl rfl (by decide)).1
  have x100 : a.tmps.getD 100 undef = .bool false := (hf 27 _ 100 rfl rfl (by decide)).1
  have x101 : a.tmps.getD 101 undef = .bool false := (hf 28 _ 101 rfl rfl (by decide)).1
  have x102 := hx 102 s102 (by kernel_rfl) rfl
  have x103 := hx 103 s103 (by kernel_rfl) rfl
  have x104 := hx 104 s104 (by kernel_rfl) rfl
  have x105 := hx 105 s105 (by kernel_rfl) rfl
  have x106 := hx 106 s106 (by kernel_rfl) rfl
  have x107 := hx 107 s107 (by kernel_rfl) rfl
  have x108 := hx 108 s108 (by kernel_rfl) rfl
  have x109 := hx 109 s109 (by kernel_rfl) rfl
  have x110 := hx 110 s110 (by kernel_rfl) rfl
  have x111 := hx 111 s111 (by kernel_rfl) rfl
  have x112 := hx 112 s112 (by kernel_rfl) rfl
  have x113 := hx 113 s113 (by kernel_rfl) rfl
  have x114 := hx 114 s114 (by kernel_rfl) rfl
  have x115 := hx 115 s115 (by kernel_rfl) rfl
  have x116 := hx 116 s116 (by kernel_rfl) rfl
  have x117 := hx 117 s117 (by kernel_rfl) rfl
  have x118 := hx 118 s118 (by kernel_rfl) rfl
  have x119 := hx 119 s119 (by kernel_rfl) rfl
  have x120 := hx 120 s120 (by kernel_rfl) rfl
  have x121 := hx 121 s121 (by kernel_rfl) rfl
  have x122 := hx 122 s122 (by kernel_rfl) rfl
  have x123 := hx 123 s123 (by kernel_rfl) rfl
  have x124 := hx 124 s124 (by kernel_rfl) rfl
  have x125 := hx 125 s125 (by kernel_rfl) rfl
  have x126 := hx 126 s126 (by kernel_rfl) rfl
  have x127 := hx 127 s127 (by kernel_rfl) rfl
  have x128 := hx 128 s128 (by kernel_rfl) rfl
  have x129 := hx 129 s129 (by kernel_rfl) rfl
  have x130 := hx 130 s130 (by kernel_rfl) rfl
  have x131 := hx 131 s131 (by kernel_rfl) rfl
  have x132 := hx 132 s132 (by kernel_rfl) rfl
  have hl : a.tmps = (s0 :: s1 :: (.slice Av nv cv : Value) :: (.pointer (some ⟨b, 0, none⟩) : Value) :: (.pointer (some ⟨b + 1, 0, none⟩) : Value) :: s5 :: s6 :: s7 :: s8 :: (.int .i64 x : Value) :: (.int .i64 y : Value) :: (.pointer (some ⟨p, 0, none⟩) : Value) :: s12 :: s13 :: s14 :: s15 :: s16 :: s17 :: s18 :: s19 :: s20 :: s21 :: s22 :: s23 :: s24 :: s25 :: s26 :: s27 :: s28 :: s29 :: s30 :: s31 :: s32 :: s33 :: s34 :: s35 :: s36 :: s37 :: s38 :: s39 :: s40 :: s41 :: s42 :: s43 :: s44 :: s45 :: s46 :: s47 :: s48 :: s49 :: s50 :: s51 :: s52 :: s53 :: s54 :: s55 :: s56 :: s57 :: s58 :: s59 :: s60 :: s61 :: s62 :: s63 :: s64 :: s65 :: s66 :: s67 :: s68 :: s69 :: s70 :: s71 :: s72 :: (lvV Aa ca la : Value) :: (lvV Ab cb lb : Value) :: (.bool true : Value) :: (.bool true : Value) :: (.int .i64 x : Value) :: (.int .i64 y : Value) :: (.bool false : Value) :: (.bool false : Value) :: (.bool false : Value) :: (lvV Aa ca la : Value) :: (lvV Ab cb lb : Value) :: (.bool false : Value) :: (.bool false : Value) :: undef :: undef :: undef :: (.bool false : Value) :: (.bool false : Value) :: (.bool false : Value) :: (lvV Ar cr lr : Value) :: (.bool true : Value) :: (.bool true : Value) :: (lvV Ar cr lr : Value) :: (.slice Av nv cv : Value) :: (.int .i64 (valB vs lr) : Value) :: (.int .i64 x : Value) :: (.bool false : Value) :: (.bool false : Value) :: (.bool false : Value) :: s102 :: s103 :: s104 :: s105 :: s106 :: s107 :: s108 :: s109 :: s110 :: s111 :: s112 :: s113 :: s114 :: s115 :: s116 :: s117 :: s118 :: s119 :: s120 :: s121 :: s122 :: s123 :: s124 :: s125 :: s126 :: s127 :: s128 :: s129 :: s130 :: s131 :: s132 :: ([] : List Value)).toArray := by
    have h := lit a.tmps 133 hs
    have e : ((List.range 133).map (fun i => a.tmps.getD i undef)).toArray = ((a.tmps.getD 0 undef : Value) :: (a.tmps.getD 1 undef : Value) :: (a.tmps.getD 2 undef : Value) :: (a.tmps.getD 3 undef : Value) :: (a.tmps.getD 4 undef : Value) :: (a.tmps.getD 5 undef : Value) :: (a.tmps.getD 6 undef : Value) :: (a.tmps.getD 7 undef : Value) :: (a.tmps.getD 8 undef : Value) :: (a.tmps.getD 9 undef : Value) :: (a.tmps.getD 10 undef : Value) :: (a.tmps.getD 11 undef : Value) :: (a.tmps.getD 12 undef : Value) :: (a.tmps.getD 13 undef : Value) :: (a.tmps.getD 14 undef : Value) :: (a.tmps.getD 15 undef : Value) :: (a.tmps.getD 16 undef : Value) :: (a.tmps.getD 17 undef : Value) :: (a.tmps.getD 18 undef : Value) :: (a.tmps.getD 19 undef : Value) :: (a.tmps.getD 20 undef : Value) :: (a.tmps.getD 21 undef : Value) :: (a.tmps.getD 22 undef : Value) :: (a.tmps.getD 23 undef : Value) :: (a.tmps.getD 24 undef : Value) :: (a.tmps.getD 25 undef : Value) :: (a.tmps.getD 26 undef : Value) :: (a.tmps.getD 27 undef : Value) :: (a.tmps.getD 28 undef : Value) :: (a.tmps.getD 29 undef : Value) :: (a.tmps.getD 30 undef : Value) :: (a.tmps.getD 31 undef : Value) :: (a.tmps.getD 32 undef : Value) :: (a.tmps.getD 33 undef : Value) :: (a.tmps.getD 34 undef : Value) :: (a.tmps.getD 35 undef : Value) :: (a.tmps.getD 36 undef : Value) :: (a.tmps.getD 37 undef : Value) :: (a.tmps.getD 38 undef : Value) :: (a.tmps.getD 39 undef : Value) :: (a.tmps.getD 40 undef : Value) :: (a.tmps.getD 41 undef : Value) :: (a.tmps.getD 42 undef : Value) :: (a.tmps.getD 43 undef : Value) :: (a.tmps.getD 44 undef : Value) :: (a.tmps.getD 45 undef : Value) :: (a.tmps.getD 46 undef : Value) :: (a.tmps.getD 47 undef : Value) :: (a.tmps.getD 48 undef : Value) :: (a.tmps.getD 49 undef : Value) :: (a.tmps.getD 50 undef : Value) :: (a.tmps.getD 51 undef : Value) :: (a.tmps.getD 52 undef : Value) :: (a.tmps.getD 53 undef : Value) :: (a.tmps.getD 54 undef : Value) :: (a.tmps.getD 55 undef : Value) :: (a.tmps.getD 56 undef : Value) :: (a.tmps.getD 57 undef : Value) :: (a.tmps.getD 58 undef : Value) :: (a.tmps.getD 59 undef : Value) :: (a.tmps.getD 60 undef : Value) :: (a.tmps.getD 61 undef : Value) :: (a.tmps.getD 62 undef : Value) :: (a.tmps.getD 63 undef : Value) :: (a.tmps.getD 64 undef : Value) :: (a.tmps.getD 65 undef : Value) :: (a.tmps.getD 66 undef : Value) :: (a.tmps.getD 67 undef : Value) :: (a.tmps.getD 68 undef : Value) :: (a.tmps.getD 69 undef : Value) :: (a.tmps.getD 70 undef : Value) :: (a.tmps.getD 71 undef : Value) :: (a.tmps.getD 72 undef : Value) :: (a.tmps.getD 73 undef : Value) :: (a.tmps.getD 74 undef : Value) :: (a.tmps.getD 75 undef : Value) :: (a.tmps.getD 76 undef : Value) :: (a.tmps.getD 77 undef : Value) :: (a.tmps.getD 78 undef : Value) :: (a.tmps.getD 79 undef : Value) :: (a.tmps.getD 80 undef : Value) :: (a.tmps.getD 81 undef : Value) :: (a.tmps.getD 82 undef : Value) :: (a.tmps.getD 83 undef : Value) :: (a.tmps.getD 84 undef : Value) :: (a.tmps.getD 85 undef : Value) :: (a.tmps.getD 86 undef : Value) :: (a.tmps.getD 87 undef : Value) :: (a.tmps.getD 88 undef : Value) :: (a.tmps.getD 89 undef : Value) :: (a.tmps.getD 90 undef : Value) :: (a.tmps.getD 91 undef : Value) :: (a.tmps.getD 92 undef : Value) :: (a.tmps.getD 93 undef : Value) :: (a.tmps.getD 94 undef : Value) :: (a.tmps.getD 95 undef : Value) :: (a.tmps.getD 96 undef : Value) :: (a.tmps.getD 97 undef : Value) :: (a.tmps.getD 98 undef : Value) :: (a.tmps.getD 99 undef : Value) :: (a.tmps.getD 100 undef : Value) :: (a.tmps.getD 101 undef : Value) :: (a.tmps.getD 102 undef : Value) :: (a.tmps.getD 103 undef : Value) :: (a.tmps.getD 104 undef : Value) :: (a.tmps.getD 105 undef : Value) :: (a.tmps.getD 106 undef : Value) :: (a.tmps.getD 107 undef : Value) :: (a.tmps.getD 108 undef : Value) :: (a.tmps.getD 109 undef : Value) :: (a.tmps.getD 110 undef : Value) :: (a.tmps.getD 111 undef : Value) :: (a.tmps.getD 112 undef : Value) :: (a.tmps.getD 113 undef : Value) :: (a.tmps.getD 114 undef : Value) :: (a.tmps.getD 115 undef : Value) :: (a.tmps.getD 116 undef : Value) :: (a.tmps.getD 117 undef : Value) :: (a.tmps.getD 118 undef : Value) :: (a.tmps.getD 119 undef : Value) :: (a.tmps.getD 120 undef : Value) :: (a.tmps.getD 121 undef : Value) :: (a.tmps.getD 122 undef : Value) :: (a.tmps.getD 123 undef : Value) :: (a.tmps.getD 124 undef : Value) :: (a.tmps.getD 125 undef : Value) :: (a.tmps.getD 126 undef : Value) :: (a.tmps.getD 127 undef : Value) :: (a.tmps.getD 128 undef : Value) :: (a.tmps.getD 129 undef : Value) :: (a.tmps.getD 130 undef : Value) :: (a.tmps.getD 131 undef : Value) :: (a.tmps.getD 132 undef : Value) :: ([] : List Value)).toArray := rfl
    rw [e, x0, x1, x2, x3, x4, x5, x6, x7, x8, x9, x10, x11, x12, x13, x14, x15, x16, x17, x18, x19, x20, x21, x22, x23, x24, x25, x26, x27, x28, x29, x30, x31, x32, x33, x34, x35, x36, x37, x38, x39, x40, x41, x42, x43, x44, x45, x46, x47, x48, x49, x50, x51, x52, x53, x54, x55, x56, x57, x58, x59, x60, x61, x62, x63, x64, x65, x66, x67, x68, x69, x70, x71, x72, x73, x74, x75, x76, x77, x78, x79, x80, x81, x82, x83, x84, x85, x86, x87, x88, x89, x90, x91, x92, x93, x94, x95, x96, x97, x98, x99, x100, x101, x102, x103, x104, x105, x106, x107, x108, x109, x110, x111, x112, x113, x114, x115, x116, x117, x118, x119, x120, x121, x122, x123, x124, x125, x126, x127, x128, x129, x130, x131, x132] at h
    exact h
  obtain ⟨tmps, defers⟩ := a
  obtain rfl : defers = [] := hd
  have hl' : tmps = _ := hl
  rw [hl']
  have hb' := est2_chg hb
  exact hend w' ⟨hb'.os, hb'.tape, hb'.output, hb'.size, hb'.block⟩

def ma100_F (w0 : World) (b p : Nat) (Aa Ab Ar Av : Option Addr) (ca cb cr nv cv : Nat) (la lb lr : Lv) (vs : List Int) (x y : Int) : Nat → (Nat → Value) → Value → World → (Nat → Prop) → Prop := fun rix => match rix with
  | 0 => fun _ v _ _ => v = lvV Aa ca la
  | 1 => fun _ v _ _ => v = lvV Ab cb lb
  | 2 => fun _ v _ _ => v = .bool true
  | 3 => fun _ v _ _ => v = .bool true
  | 4 => fun _ v _ _ => v = .int .i64 x
  | 5 => fun _ v _ _ => v = .int .i64 y
  | 6 => fun _ v _ _ => v = .bool false
  | 7 => fun _ v _ _ => v = .bool false
  | 8 => fun _ v _ _ => v = .bool false
  | 9 => fun _ v _ _ => v = lvV Aa ca la
  | 10 => fun _ v _ _ => v = lvV Ab cb lb
  | 11 => fun _ v _ _ => v = .bool false
  | 12 => fun _ v _ _ => v = .bool false
  | 13 => fun _ v _ _ => v = undef
  | 14 => fun _ v _ _ => v = undef
  | 15 => fun _ v _ _ => v = undef
  | 16 => fun _ v _ _ => v = .bool false
  | 17 => fun _ v _ _ => v = .bool false
  | 18 => fun _ v _ _ => v = .bool false
  | 19 => fun _ v _ _ => v = lvV Ar cr lr
  | 20 => fun _ v _ _ => v = .bool false
  | 21 => fun _ v _ _ => v = .bool false
  | 22 => fun _ v _ _ => v = undef
  | 23 => fun _ v _ _ => v = undef
  | 24 => fun _ v _ _ => v = undef
  | 25 => fun _ v _ _ => v = undef
  | 26 => fun _ v _ _ => v = undef
  | 27 => fun _ v _ _ => v = .bool false
  | 28 => fun _ v _ _ => v = .bool false
  | _ => fun _ _ _ _ => True
def ma100_C : Nat → List Nat := fun rix => match rix with
  | _ => []
theorem ma100_nw2 : nwB ma111_ops.toArray 2 = true := by kernel_rfl
theorem ma100_nw3 : nwB ma111_ops.toArray 3 = true := by kernel_rfl
theorem ma100_nw4 : nwB ma111_ops.toArray 4 = true := by kernel_rfl
theorem ma100_nw9 : nwB ma111_ops.toArray 9 = true := by kernel_rfl
theorem ma100_nw10 : nwB ma111_ops.toArray 10 = true := by kernel_rfl
theorem ma100_nw11 : nwB ma111_ops.toArray 11 = true := by kernel_rfl
set_option maxRecDepth 100000 in
set_option maxHeartbeats 8000000 in
theorem ma100_obs (w0 : World) (b p : Nat) (Aa Ab Ar Av : Option Addr) (ca cb cr nv cv : Nat) (la lb lr : Lv) (vs : List Int) (x y : Int) (hxa : w0.heap[b]? = some (.cells #[.int .i64 la.kind, .int .i64 la.num, .slice Aa la.kids.length ca] 24 (0, 0))) (hina : LvS w0 (fun k => k < w0.heap.size) Aa ca la) (hxb : w0.heap[b + 1]? = some (.cells #[.int .i64 lb.kind, .int .i64 lb.num, .slice Ab lb.kids.length cb] 24 (0, 0))) (hinb : LvS w0 (fun k => k < w0.heap.size) Ab cb lb) (hxr : w0.heap[p]? = some (.cells #[.int .i64 lr.kind, .int .i64 lr.num, .slice Ar lr.kids.length cr] 24 (0, 0))) (hinr : LvS w0 (fun k => k < w0.heap.size) Ar cr lr) (hv : ReadsInt w0 .i64 Av nv vs) (hlq : leqP la lb = true) (hxy : decide (y < x) = false) (heq : eqP la lb = false) (hsr : soundB lr = false) (Q : Exit → Act → World → Prop) (a0 : Act) (hi2 : a0.tmps.getD 2 undef = .slice Av nv cv) (hi3 : a0.tmps.getD 3 undef = .pointer (some ⟨b, 0, none⟩)) (hi4 : a0.tmps.getD 4 undef = .pointer (some ⟨b + 1, 0, none⟩)) (hi9 : a0.tmps.getD 9 undef = .int .i64 x) (hi10 : a0.tmps.getD 10 undef = .int .i64 y) (hi11 : a0.tmps.getD 11 undef = .pointer (some ⟨p, 0, none⟩)) :
    ObsE Try.prog ma111_ops.toArray Q (est2 0 0 (fun _ => False) (fun _ => False)) ma100_C (ma100_F w0 b p Aa Ab Ar Av ca cb cr nv cv la lb lr vs x y) a0 w0 ma111_ops.toArray.toList 0 := by
  have nw2 := ma100_nw2
  have nw3 := ma100_nw3
  have nw4 := ma100_nw4
  have nw9 := ma100_nw9
  have nw10 := ma100_nw10
  have nw11 := ma100_nw11
  refine ⟨?_, ?_, ?_, ?_, ?_, ?_, ?_, ?_, ?_, ?_, ?_, ?_, ?_, ?_, ?_, ?_, ?_, ?_, ?_, ?_, ?_, ?_, ?_, ?_, ?_, ?_, ?_, ?_, ?_, trivial⟩
  · refine ⟨⟨fun τ => stableE_det _, leans_not⟩, ?_⟩
    intro a w O hk
    have e3 : a.eval (.tmp 3) = .pointer (some ⟨b, 0, none⟩) := (hk.init 3 (initialB_of_nw nw3)).trans hi3
    have x3 := hk.world.still hxa (fun ⟨_, h⟩ => h.elim And.right And.right)
    exact obE_loadRow rfl e3 x3 Try.underlying24 rfl (by kernel_rfl) (wanted_none rfl) rfl
  · refine ⟨⟨fun τ => stableE_det _, leans_not⟩, ?_⟩
    intro a w O hk
    have e4 : a.eval (.tmp 4) = .pointer (some ⟨b + 1, 0, none⟩) := (hk.init 4 (initialB_of_nw nw4)).trans hi4
    have x4 := hk.world.still hxb (fun ⟨_, h⟩ => h.elim And.right And.right)
    exact obE_loadRow rfl e4 x4 Try.underlying24 rfl (by kernel_rfl) (wanted_none rfl) rfl
  · refine ⟨⟨fun τ => stableE_det _, leans_not⟩, ?_⟩
    intro a w O hk
    have e73 : a.eval (.tmp 73) = lvV Aa ca la := hk.fact 0 _ 73 rfl rfl rfl rfl
    have e74 : a.eval (.tmp 74) = lvV Ab cb lb := hk.fact 1 _ 74 rfl rfl rfl rfl
    exact obE_lvLeq rfl (wanted_none rfl) (show LvV (fun k => k < w0.heap.size) la (a.eval (.tmp 73)) w (fun _ => False) by rw [e73]; exact LvV.old hina (fun k hk' => est2_fix hk' (fun h => h) (fun h => h)) hk.fix) (show LvV (fun k => k < w0.heap.size) lb (a.eval (.tmp 74)) w (fun _ => False) by rw [e74]; exact LvV.old hinb (fun k hk' => est2_fix hk' (fun h => h) (fun h => h)) hk.fix) hlq
  · refine ⟨⟨fun τ => stableE_det _, leans_not⟩, ?_⟩
    intro a w O hk
    have e75 : a.eval (.tmp 75) = .bool true := hk.fact 2 _ 75 rfl rfl rfl rfl
    exact toE (ob_move rfl e75 (wanted_none rfl) rfl)
  · refine ⟨⟨fun τ => stableE_det _, leans_not⟩, ?_⟩
    intro a w O hk
    have e9 : a.eval (.tmp 9) = .int .i64 x := (hk.init 9 (initialB_of_nw nw9)).trans hi9
    have e76 : a.eval (.tmp 76) = .bool true := hk.fact 3 _ 76 rfl rfl rfl rfl
    exact toE (ob_move rfl e9 (wanted_of rfl rfl rfl e76) rfl)
  · refine ⟨⟨fun τ => stableE_det _, leans_not⟩, ?_⟩
    intro a w O hk
    have e10 : a.eval (.tmp 10) = .int .i64 y := (hk.init 10 (initialB_of_nw nw10)).trans hi10
    have e76 : a.eval (.tmp 76) = .bool true := hk.fact 3 _ 76 rfl rfl rfl rfl
    exact toE (ob_move rfl e10 (wanted_of rfl rfl rfl e76) rfl)
  · refine ⟨⟨fun τ => stableE_det _, leans_not⟩, ?_⟩
    intro a w O hk
    have e77 : a.eval (.tmp 77) = .int .i64 x := hk.fact 4 _ 77 rfl rfl rfl rfl
    have e78 : a.eval (.tmp 78) = .int .i64 y := hk.fact 5 _ 78 rfl rfl rfl rfl
    have e76 : a.eval (.tmp 76) = .bool true := hk.fact 3 _ 76 rfl rfl rfl rfl
    exact toE (ob_bin rfl e77 e78 (run_gtrB _ _ false hxy) (by decide) (wanted_of rfl rfl rfl e76) rfl)
  · refine ⟨⟨fun τ => stableE_det _, leans_not⟩, ?_⟩
    intro a w O hk
    have e76 : a.eval (.tmp 76) = .bool true := hk.fact 3 _ 76 rfl rfl rfl rfl
    have e79 : a.eval (.tmp 79) = .bool false := hk.fact 6 _ 79 rfl rfl rfl rfl
    exact toE (ob_pick rfl e76 e79 (wanted_none rfl) rfl)
  · refine ⟨⟨fun τ => stableE_det _, leans_not⟩, ?_⟩
    intro a w O hk
    have e80 : a.eval (.tmp 80) = .bool false := hk.fact 7 _ 80 rfl rfl rfl rfl
    exact toE (ob_move rfl e80 (wanted_none rfl) rfl)
  · refine ⟨⟨fun τ => stableE_det _, leans_not⟩, ?_⟩
    intro a w O hk
    have e3 : a.eval (.tmp 3) = .pointer (some ⟨b, 0, none⟩) := (hk.init 3 (initialB_of_nw nw3)).trans hi3
    have e81 : a.eval (.tmp 81) = .bool false := hk.fact 8 _ 81 rfl rfl rfl rfl
    have x3 := hk.world.still hxa (fun ⟨_, h⟩ => h.elim And.right And.right)
    exact obE_loadRow rfl e3 x3 Try.underlying24 rfl (by kernel_rfl) (wanted_of rfl rfl rfl e81) rfl
  · refine ⟨⟨fun τ => stableE_det _, leans_not⟩, ?_⟩
    intro a w O hk
    have e4 : a.eval (.tmp 4) = .pointer (some ⟨b + 1, 0, none⟩) := (hk.init 4 (initialB_of_nw nw4)).trans hi4
    have e81 : a.eval (.tmp 81) = .bool false := hk.fact 8 _ 81 rfl rfl rfl rfl
    have x4 := hk.world.still hxb (fun ⟨_, h⟩ => h.elim And.right And.right)
    exact obE_loadRow rfl e4 x4 Try.underlying24 rfl (by kernel_rfl) (wanted_of rfl rfl rfl e81) rfl
  · refine ⟨⟨fun τ => stableE_det _, leans_not⟩, ?_⟩
    intro a w O hk
    have e82 : a.eval (.tmp 82) = lvV Aa ca la := hk.fact 9 _ 82 rfl rfl rfl rfl
    have e83 : a.eval (.tmp 83) = lvV Ab cb lb := hk.fact 10 _ 83 rfl rfl rfl rfl
    have e81 : a.eval (.tmp 81) = .bool false := hk.fact 8 _ 81 rfl rfl rfl rfl
    exact obE_lvEqual rfl (wanted_of rfl rfl rfl e81) (show LvV (fun k => k < w0.heap.size) la (a.eval (.tmp 82)) w (fun _ => False) by rw [e82]; exact LvV.old hina (fun k hk' => est2_fix hk' (fun h => h) (fun h => h)) hk.fix) (show LvV (fun k => k < w0.heap.size) lb (a.eval (.tmp 83)) w (fun _ => False) by rw [e83]; exact LvV.old hinb (fun k hk' => est2_fix hk' (fun h => h) (fun h => h)) hk.fix) heq
  · refine ⟨⟨fun τ => stableE_det _, leans_not⟩, ?_⟩
    intro a w O hk
    have e84 : a.eval (.tmp 84) = .bool false := hk.fact 11 _ 84 rfl rfl rfl rfl
    have e81 : a.eval (.tmp 81) = .bool false := hk.fact 8 _ 81 rfl rfl rfl rfl
    exact toE (ob_move rfl e84 (wanted_of rfl rfl rfl e81) rfl)
  · refine ⟨⟨fun τ => stableE_det _, leans_not⟩, ?_⟩
    intro a w O hk
    have e9 : a.eval (.tmp 9) = .int .i64 x := (hk.init 9 (initialB_of_nw nw9)).trans hi9
    have e85 : a.eval (.tmp 85) = .bool false := hk.fact 12 _ 85 rfl rfl rfl rfl
    exact toE (ob_skip (unwanted_of rfl rfl rfl e85 (by decide)) rfl)
  · refine ⟨⟨fun τ => stableE_det _, leans_not⟩, ?_⟩
    intro a w O hk
    have e10 : a.eval (.tmp 10) = .int .i64 y := (hk.init 10 (initialB_of_nw nw10)).trans hi10
    have e85 : a.eval (.tmp 85) = .bool false := hk.fact 12 _ 85 rfl rfl rfl rfl
    exact toE (ob_skip (unwanted_of rfl rfl rfl e85 (by decide)) rfl)
  · refine ⟨⟨fun τ => stableE_det _, leans_not⟩, ?_⟩
    intro a w O hk
    have e86 : a.eval (.tmp 86) = undef := hk.fact 13 _ 86 rfl rfl rfl rfl
    have e87 : a.eval (.tmp 87) = undef := hk.fact 14 _ 87 rfl rfl rfl rfl
    have e85 : a.eval (.tmp 85) = .bool false := hk.fact 12 _ 85 rfl rfl rfl rfl
    exact toE (ob_skip (unwanted_of rfl rfl rfl e85 (by decide)) rfl)
  · refine ⟨⟨fun τ => stableE_det _, leans_not⟩, ?_⟩
    intro a w O hk
    have e85 : a.eval (.tmp 85) = .bool false := hk.fact 12 _ 85 rfl rfl rfl rfl
    have e88 : a.eval (.tmp 88) = undef := hk.fact 15 _ 88 rfl rfl rfl rfl
    have e81 : a.eval (.tmp 81) = .bool false := hk.fact 8 _ 81 rfl rfl rfl rfl
    exact toE (ob_pick rfl e85 rfl (wanted_of rfl rfl rfl e81) rfl)
  · refine ⟨⟨fun τ => stableE_det _, leans_not⟩, ?_⟩
    intro a w O hk
    have e81 : a.eval (.tmp 81) = .bool false := hk.fact 8 _ 81 rfl rfl rfl rfl
    have e89 : a.eval (.tmp 89) = .bool false := hk.fact 16 _ 89 rfl rfl rfl rfl
    exact toE (ob_pick rfl e81 e89 (wanted_none rfl) rfl)
  · refine ⟨⟨fun τ => stableE_det _, leans_not⟩, ?_⟩
    intro a w O hk
    have e90 : a.eval (.tmp 90) = .bool false := hk.fact 17 _ 90 rfl rfl rfl rfl
    exact toE (ob_move rfl e90 (wanted_none rfl) rfl)
  · refine ⟨⟨fun τ => stableE_det _, leans_not⟩, ?_⟩
    intro a w O hk
    have e11 : a.eval (.tmp 11) = .pointer (some ⟨p, 0, none⟩) := (hk.init 11 (initialB_of_nw nw11)).trans hi11
    have e91 : a.eval (.tmp 91) = .bool false := hk.fact 18 _ 91 rfl rfl rfl rfl
    have x11 := hk.world.still hxr (fun ⟨_, h⟩ => h.elim And.right And.right)
    exact obE_loadRow rfl e11 x11 Try.underlying24 rfl (by kernel_rfl) (wanted_of rfl rfl rfl e91) rfl
  · refine ⟨⟨fun τ => stableE_det _, leans_not⟩, ?_⟩
    intro a w O hk
    have e92 : a.eval (.tmp 92) = lvV Ar cr lr := hk.fact 19 _ 92 rfl rfl rfl rfl
    have e91 : a.eval (.tmp 91) = .bool false := hk.fact 18 _ 91 rfl rfl rfl rfl
    exact obE_callV #[lvV Ar cr lr] rfl rfl rfl rfl (by simp only [List.map_cons, List.map_nil]; rw [e92]) (wanted_of rfl rfl rfl e91) (by have h := refSound_calls Ar cr lr w (LvS.all (LvS.same hinr (fun k hk' _ => hk.fix k ((fun k hk' => est2_fix hk' (fun h => h) (fun h => h)) k hk')))); rwa [hsr] at h)
  · refine ⟨⟨fun τ => stableE_det _, leans_not⟩, ?_⟩
    intro a w O hk
    have e93 : a.eval (.tmp 93) = .bool false := hk.fact 20 _ 93 rfl rfl rfl rfl
    have e91 : a.eval (.tmp 91) = .bool false := hk.fact 18 _ 91 rfl rfl rfl rfl
    exact toE (ob_move rfl e93 (wanted_of rfl rfl rfl e91) rfl)
  · refine ⟨⟨fun τ => stableE_det _, leans_not⟩, ?_⟩
    intro a w O hk
    have e11 : a.eval (.tmp 11) = .pointer (some ⟨p, 0, none⟩) := (hk.init 11 (initialB_of_nw nw11)).trans hi11
    have e94 : a.eval (.tmp 94) = .bool false := hk.fact 21 _ 94 rfl rfl rfl rfl
    exact toE (ob_skip (unwanted_of rfl rfl rfl e94 (by decide)) rfl)
  · refine ⟨⟨fun τ => stableE_det _, leans_not⟩, ?_⟩
    intro a w O hk
    have e2 : a.eval (.tmp 2) = .slice Av nv cv := (hk.init 2 (initialB_of_nw nw2)).trans hi2
    have e94 : a.eval (.tmp 94) = .bool false := hk.fact 21 _ 94 rfl rfl rfl rfl
    exact toE (ob_skip (unwanted_of rfl rfl rfl e94 (by decide)) rfl)
  · refine ⟨⟨fun τ => stableE_det _, leans_not⟩, ?_⟩
    intro a w O hk
    have e95 : a.eval (.tmp 95) = undef := hk.fact 22 _ 95 rfl rfl rfl rfl
    have e96 : a.eval (.tmp 96) = undef := hk.fact 23 _ 96 rfl rfl rfl rfl
    have e94 : a.eval (.tmp 94) = .bool false := hk.fact 21 _ 94 rfl rfl rfl rfl
    exact toE (ob_skip (unwanted_of rfl rfl rfl e94 (by decide)) rfl)
  · refine ⟨⟨fun τ => stableE_det _, leans_not⟩, ?_⟩
    intro a w O hk
    have e9 : a.eval (.tmp 9) = .int .i64 x := (hk.init 9 (initialB_of_nw nw9)).trans hi9
    have e94 : a.eval (.tmp 94) = .bool false := hk.fact 21 _ 94 rfl rfl rfl rfl
    exact toE (ob_skip (unwanted_of rfl rfl rfl e94 (by decide)) rfl)
  · refine ⟨⟨fun τ => stableE_det _, leans_not⟩, ?_⟩
    intro a w O hk
    have e97 : a.eval (.tmp 97) = undef := hk.fact 24 _ 97 rfl rfl rfl rfl
    have e98 : a.eval (.tmp 98) = undef := hk.fact 25 _ 98 rfl rfl rfl rfl
    have e94 : a.eval (.tmp 94) = .bool false := hk.fact 21 _ 94 rfl rfl rfl rfl
    exact toE (ob_skip (unwanted_of rfl rfl rfl e94 (by decide)) rfl)
  · refine ⟨⟨fun τ => stableE_det _, leans_not⟩, ?_⟩
    intro a w O hk
    have e94 : a.eval (.tmp 94) = .bool false := hk.fact 21 _ 94 rfl rfl rfl rfl
    have e99 : a.eval (.tmp 99) = undef := hk.fact 26 _ 99 rfl rfl rfl rfl
    have e91 : a.eval (.tmp 91) = .bool false := hk.fact 18 _ 91 rfl rfl rfl rfl
    exact toE (ob_pick rfl e94 rfl (wanted_of rfl rfl rfl e91) rfl)
  · refine ⟨⟨fun τ => stableE_det _, leans_not⟩, ?_⟩
    intro a w O hk
    have e91 : a.eval (.tmp 91) = .bool false := hk.fact 18 _ 91 rfl rfl rfl rfl
    have e100 : a.eval (.tmp 100) = .bool false := hk.fact 27 _ 100 rfl rfl rfl rfl
    exact toE (ob_pick rfl e91 e100 (wanted_none rfl) rfl)
set_option maxRecDepth 100000 in
set_option maxHeartbeats 8000000 in
theorem ma100_region {Q : Exit → Act → World → Prop} {id : Nat} (w0 : World) (b p : Nat) (Aa Ab Ar Av : Option Addr) (ca cb cr nv cv : Nat) (la lb lr : Lv) (vs : List Int) (x y : Int) {s0 s1 s5 s6 s7 s8 s12 s13 s14 s15 s16 s17 s18 s19 s20 s21 s22 s23 s24 s25 s26 s27 s28 s29 s30 s31 s32 s33 s34 s35 s36 s37 s38 s39 s40 s41 s42 s43 s44 s45 s46 s47 s48 s49 s50 s51 s52 s53 s54 s55 s56 s57 s58 s59 s60 s61 s62 s63 s64 s65 s66 s67 s68 s69 s70 s71 s72 s73 s74 s75 s76 s77 s78 s79 s80 s81 s82 s83 s84 s85 s86 s87 s88 s89 s90 s91 s92 s93 s94 s95 s96 s97 s98 s99 s100 s101 s102 s103 s104 s105 s106 s107 s108 s109 s110 s111 s112 s113 s114 s115 s116 s117 s118 s119 s120 s121 s122 s123 s124 s125 s126 s127 s128 s129 s130 s131 s132 : Value} (hxa : w0.heap[b]? = some (.cells #[.int .i64 la.kind, .int .i64 la.num, .slice Aa la.kids.length ca] 24 (0, 0))) (hina : LvS w0 (fun k => k < w0.heap.size) Aa ca la) (hxb : w0.heap[b + 1]? = some (.cells #[.int .i64 lb.kind, .int .i64 lb.num, .slice Ab lb.kids.length cb] 24 (0, 0))) (hinb : LvS w0 (fun k => k < w0.heap.size) Ab cb lb) (hxr : w0.heap[p]? = some (.cells #[.int .i64 lr.kind, .int .i64 lr.num, .slice Ar lr.kids.length cr] 24 (0, 0))) (hinr : LvS w0 (fun k => k < w0.heap.size) Ar cr lr) (hv : ReadsInt w0 .i64 Av nv vs) (hlq : leqP la lb = true) (hxy : decide (y < x) = false) (heq : eqP la lb = false) (hsr : soundB lr = false)
    (hend : ∀ (w' : World), Chg (fun k => False ∨ False) w0 w' → Q .normal { tmps := (s0 :: s1 :: (.slice Av nv cv : Value) :: (.pointer (some ⟨b, 0, none⟩) : Value) :: (.pointer (some ⟨b + 1, 0, none⟩) : Value) :: s5 :: s6 :: s7 :: s8 :: (.int .i64 x : Value) :: (.int .i64 y : Value) :: (.pointer (some ⟨p, 0, none⟩) : Value) :: s12 :: s13 :: s14 :: s15 :: s16 :: s17 :: s18 :: s19 :: s20 :: s21 :: s22 :: s23 :: s24 :: s25 :: s26 :: s27 :: s28 :: s29 :: s30 :: s31 :: s32 :: s33 :: s34 :: s35 :: s36 :: s37 :: s38 :: s39 :: s40 :: s41 :: s42 :: s43 :: s44 :: s45 :: s46 :: s47 :: s48 :: s49 :: s50 :: s51 :: s52 :: s53 :: s54 :: s55 :: s56 :: s57 :: s58 :: s59 :: s60 :: s61 :: s62 :: s63 :: s64 :: s65 :: s66 :: s67 :: s68 :: s69 :: s70 :: s71 :: s72 :: (lvV Aa ca la : Value) :: (lvV Ab cb lb : Value) :: (.bool true : Value) :: (.bool true : Value) :: (.int .i64 x : Value) :: (.int .i64 y : Value) :: (.bool false : Value) :: (.bool false : Value) :: (.bool false : Value) :: (lvV Aa ca la : Value) :: (lvV Ab cb lb : Value) :: (.bool false : Value) :: (.bool false : Value) :: undef :: undef :: undef :: (.bool false : Value) :: (.bool false : Value) :: (.bool false : Value) :: (lvV Ar cr lr : Value) :: (.bool false : Value) :: (.bool false : Value) :: undef :: undef :: undef :: undef :: undef :: (.bool false : Value) :: (.bool false : Value) :: s102 :: s103 :: s104 :: s105 :: s106 :: s107 :: s108 :: s109 :: s110 :: s111 :: s112 :: s113 :: s114 :: s115 :: s116 :: s117 :: s118 :: s119 :: s120 :: s121 :: s122 :: s123 :: s124 :: s125 :: s126 :: s127 :: s128 :: s129 :: s130 :: s131 :: s132 :: ([] : List Value)).toArray, defers := [] } w') :
    (Code.region id ma111_ops.toArray false).wp Try.prog Q { tmps := (s0 :: s1 :: (.slice Av nv cv : Value) :: (.pointer (some ⟨b, 0, none⟩) : Value) :: (.pointer (some ⟨b + 1, 0, none⟩) : Value) :: s5 :: s6 :: s7 :: s8 :: (.int .i64 x : Value) :: (.int .i64 y : Value) :: (.pointer (some ⟨p, 0, none⟩) : Value) :: s12 :: s13 :: s14 :: s15 :: s16 :: s17 :: s18 :: s19 :: s20 :: s21 :: s22 :: s23 :: s24 :: s25 :: s26 :: s27 :: s28 :: s29 :: s30 :: s31 :: s32 :: s33 :: s34 :: s35 :: s36 :: s37 :: s38 :: s39 :: s40 :: s41 :: s42 :: s43 :: s44 :: s45 :: s46 :: s47 :: s48 :: s49 :: s50 :: s51 :: s52 :: s53 :: s54 :: s55 :: s56 :: s57 :: s58 :: s59 :: s60 :: s61 :: s62 :: s63 :: s64 :: s65 :: s66 :: s67 :: s68 :: s69 :: s70 :: s71 :: s72 :: s73 :: s74 :: s75 :: s76 :: s77 :: s78 :: s79 :: s80 :: s81 :: s82 :: s83 :: s84 :: s85 :: s86 :: s87 :: s88 :: s89 :: s90 :: s91 :: s92 :: s93 :: s94 :: s95 :: s96 :: s97 :: s98 :: s99 :: s100 :: s101 :: s102 :: s103 :: s104 :: s105 :: s106 :: s107 :: s108 :: s109 :: s110 :: s111 :: s112 :: s113 :: s114 :: s115 :: s116 :: s117 :: s118 :: s119 :: s120 :: s121 :: s122 :: s123 :: s124 :: s125 :: s126 :: s127 :: s128 :: s129 :: s130 :: s131 :: s132 :: ([] : List Value)).toArray, defers := [] } w0 := by
  refine wp_region_est0 (est2 0 0 (fun _ => False) (fun _ => False)) ma100_C (ma100_F w0 b p Aa Ab Ar Av ca cb cr nv cv la lb lr vs x y) (est2_dis (fun _ h _ => h)) (est2_range (fun _ h => h.elim) (fun _ h => h.elim)) (by rfl) (by kernel_rfl) (ma100_obs w0 b p Aa Ab Ar Av ca cb cr nv cv la lb lr vs x y hxa hina hxb hinb hxr hinr hv hlq hxy heq hsr _ _ rfl rfl rfl rfl rfl rfl) ?_
  intro a w' O hd hs hb hf hf2 ha hsame
  have hx : ∀ (qi : Nat) (qv : Value), nwB ma111_ops.toArray qi = true → (s0 :: s1 :: (.slice Av nv cv : Value) :: (.pointer (some ⟨b, 0, none⟩) : Value) :: (.pointer (some ⟨b + 1, 0, none⟩) : Value) :: s5 :: s6 :: s7 :: s8 :: (.int .i64 x : Value) :: (.int .i64 y : Value) :: (.pointer (some ⟨p, 0, none⟩) : Value) :: s12 :: s13 :: s14 :: s15 :: s16 :: s17 :: s18 :: s19 :: s20 :: s21 :: s22 :: s23 :: s24 :: s25 :: s26 :: s27 :: s28 :: s29 :: s30 :: s31 :: s32 :: s33 :: s34 :: s35 :: s36 :: s37 :: s38 :: s39 :: s40 :: s41 :: s42 :: s43 :: s44 :: s45 :: s46 :: s47 :: s48 :: s49 :: s50 :: s51 :: s52 :: s53 :: s54 :: s55 :: s56 :: s57 :: s58 :: s59 :: s60 :: s61 :: s62 :: s63 :: s64 :: s65 :: s66 :: s67 :: s68 :: s69 :: s70 :: s71 :: s72 :: s73 :: s74 :: s75 :: s76 :: s77 :: s78 :: s79 :: s80 :: s81 :: s82 :: s83 :: s84 :: s85 :: s86 :: s87 :: s88 :: s89 :: s90 :: s91 :: s92 :: s93 :: s94 :: s95 :: s96 :: s97 :: s98 :: s99 :: s100 :: s101 :: s102 :: s103 :: s104 :: s105 :: s106 :: s107 :: s108 :: s109 :: s110 :: s111 :: s112 :: s113 :: s114 :: s115 :: s116 :: s117 :: s118 :: s119 :: s120 :: s121 :: s122 :: s123 :: s124 :: s125 :: s126 :: s127 :: s128 :: s129 :: s130 :: s131 :: s132 :: ([] : List Value)).toArray.getD qi undef = qv → a.tmps.getD qi undef = qv := fun qi qv h e => (hsame qi (nwB.spec h)).trans e
  have x0 := hx 0 s0 (by kernel_rfl) rfl
  have x1 := hx 1 s1 (by kernel_rfl) rfl
  have x2 := hx 2 (.slice Av nv cv) (by kernel_rfl) rfl
  have x3 := hx 3 (.pointer (some ⟨b, 0, none⟩)) (by kernel_rfl) rfl
  have x4 := hx 4 (.pointer (some ⟨b + 1, 0, none⟩)) (by kernel_rfl) rfl
  have x5 := hx 5 s5 (by kernel_rfl) rfl
  have x6 := hx 6 s6 (by kernel_rfl) rfl
  have x7 := hx 7 s7 (by kernel_rfl) rfl
  have x8 := hx 8 s8 (by kernel_rfl) rfl
  have x9 := hx 9 (.int .i64 x) (by kernel_rfl) rfl
  have x10 := hx 10 (.int .i64 y) (by kernel_rfl) rfl
  have x11 := hx 11 (.pointer (some ⟨p, 0, none⟩)) (by kernel_rfl) rfl
  have x12 := hx 12 s12 (by kernel_rfl) rfl
  have x13 := hx 13 s13 (by kernel_rfl) rfl
  have x14 := hx 14 s14 (by kernel_rfl) rfl
  have x15 := hx 15 s15 (by kernel_rfl) rfl
  have x16 := hx 16 s16 (by kernel_rfl) rfl
  have x17 := hx 17 s17 (by kernel_rfl) rfl
  have x18 := hx 18 s18 (by kernel_rfl) rfl
  have x19 := hx 19 s19 (by kernel_rfl) rfl
  have x20 := hx 20 s20 (by kernel_rfl) rfl
  have x21 := hx 21 s21 (by kernel_rfl) rfl
  have x22 := hx 22 s22 (by kernel_rfl) rfl
  have x23 := hx 23 s23 (by kernel_rfl) rfl
  have x24 := hx 24 s24 (by kernel_rfl) rfl
  have x25 := hx 25 s25 (by kernel_rfl) rfl
  have x26 := hx 26 s26 (by kernel_rfl) rfl
  have x27 := hx 27 s27 (by kernel_rfl) rfl
  have x28 := hx 28 s28 (by kernel_rfl) rfl
  have x29 := hx 29 s29 (by kernel_rfl) rfl
  have x30 := hx 30 s30 (by kernel_rfl) rfl
  have x31 := hx 31 s31 (by kernel_rfl) rfl
  have x32 := hx 32 s32 (by kernel_rfl) rfl
  have x33 := hx 33 s33 (by kernel_rfl) rfl
  have x34 := hx 34 s34 (by kernel_rfl) rfl
  have x35 := hx 35 s35 (by kernel_rfl) rfl
  have x36 := hx 36 s36 (by kernel_rfl) rfl
  have x37 := hx 37 s37 (by kernel_rfl) rfl
  have x38 := hx 38 s38 (by kernel_rfl) rfl
  have x39 := hx 39 s39 (by kernel_rfl) rfl
  have x40 := hx 40 s40 (by kernel_rfl) rfl
  have x41 := hx 41 s41 (by kernel_rfl) rfl
  have x42 := hx 42 s42 (by kernel_rfl) rfl
  have x43 := hx 43 s43 (by kernel_rfl) rfl
  have x44 := hx 44 s44 (by kernel_rfl) rfl
  have x45 := hx 45 s45 (by kernel_rfl) rfl
  have x46 := hx 46 s46 (by kernel_rfl) rfl
  have x47 := hx 47 s47 (by kernel_rfl) rfl
  have x48 := hx 48 s48 (by kernel_rfl) rfl
  have x49 := hx 49 s49 (by kernel_rfl) rfl
  have x50 := hx 50 s50 (by kernel_rfl) rfl
  have x51 := hx 51 s51 (by kernel_rfl) rfl
  have x52 := hx 52 s52 (by kernel_rfl) rfl
  have x53 := hx 53 s53 (by kernel_rfl) rfl
  have x54 := hx 54 s54 (by kernel_rfl) rfl
  have x55 := hx 55 s55 (by kernel_rfl) rfl
  have x56 := hx 56 s56 (by kernel_rfl) rfl
  have x57 := hx 57 s57 (by kernel_rfl) rfl
  have x58 := hx 58 s58 (by kernel_rfl) rfl
  have x59 := hx 59 s59 (by kernel_rfl) rfl
  have x60 := hx 60 s60 (by kernel_rfl) rfl
  have x61 := hx 61 s61 (by kernel_rfl) rfl
  have x62 := hx 62 s62 (by kernel_rfl) rfl
  have x63 := hx 63 s63 (by kernel_rfl) rfl
  have x64 := hx 64 s64 (by kernel_rfl) rfl
  have x65 := hx 65 s65 (by kernel_rfl) rfl
  have x66 := hx 66 s66 (by kernel_rfl) rfl
  have x67 := hx 67 s67 (by kernel_rfl) rfl
  have x68 := hx 68 s68 (by kernel_rfl) rfl
  have x69 := hx 69 s69 (by kernel_rfl) rfl
  have x70 := hx 70 s70 (by kernel_rfl) rfl
  have x71 := hx 71 s71 (by kernel_rfl) rfl
  have x72 := hx 72 s72 (by kernel_rfl) rfl
  have x73 : a.tmps.getD 73 undef = lvV Aa ca la := (hf 0 _ 73 rfl rfl (by decide)).1
  have x74 : a.tmps.getD 74 undef = lvV Ab cb lb := (hf 1 _ 74 rfl rfl (by decide)).1
  have x75 : a.tmps.getD 75 undef = .bool true := (hf 2 _ 75 rfl rfl (by decide)).1
  have x76 : a.tmps.getD 76 undef = .bool true := (hf 3 _ 76 rfl rfl (by decide)).1
  have x77 : a.tmps.getD 77 undef = .int .i64 x := (hf 4 _ 77 rfl rfl (by decide)).1
  have x78 : a.tmps.getD 78 undef = .int .i64 y := (hf 5 _ 78 rfl rfl (by decide)).1
  have x79 : a.tmps.getD 79 undef = .bool false := (hf 6 _ 79 rfl rfl (by decide)).1
  have x80 : a.tmps.getD 80 undef = .bool false := (hf 7 _ 80 rfl rfl (by decide)).1
  have x81 : a.tmps.getD 81 undef = .bool false := (hf 8 _ 81 rfl rfl (by decide)).1
  have x82 : a.tmps.getD 82 undef = lvV Aa ca la := (hf 9 _ 82 rfl rfl (by decide)).1
  have x83 : a.tmps.getD 83 undef = lvV Ab cb lb := (hf 10 _ 83 rfl rfl (by decide)).1
  have x84 : a.tmps.getD 84 undef = .bool false := (hf 11 _ 84 rfl rfl (by decide)).1
  have x85 : a.tmps.getD 85 undef = .bool false := (hf 12 _ 85 rfl rfl (by decide)).1
  have x86 : a.tmps.getD 86 undef = undef := (hf 13 _ 86 rfl rfl (by decide)).1
  have x87 : a.tmps.getD 87 undef = undef := (hf 14 _ 87 rfl rfl (by decide)).1
  have x88 : a.tmps.getD 88 undef = undef := (hf 15 _ 88 rfl rfl (by decide)).1
  have x89 : a.tmps.getD 89 undef = .bool false := (hf 16 _ 89 rfl rfl (by decide)).1
  have x90 : a.tmps.getD 90 undef = .bool false := (hf 17 _ 90 rfl rfl (by decide)).1
  have x91 : a.tmps.getD 91 undef = .bool false := (hf 18 _ 91 rfl rfl (by decide)).1
  have x92 : a.tmps.getD 92 undef = lvV Ar cr lr := (hf 19 _ 92 rfl rfl (by decide)).1
  have x93 : a.tmps.getD 93 undef = .bool false := (hf 20 _ 93 rfl rfl (by decide)).1
  have x94 : a.tmps.getD 94 undef = .bool false := (hf 21 _ 94 rfl rfl (by decide)).1
  have x95 : a.tmps.getD 95 undef = undef := (hf 22 _ 95 rfl rfl (by decide)).1
  have x96 : a.tmps.getD 96 undef = undef := (hf 23 _ 96 rfl rfl (by decide)).1
  have x97 : a.tmps.getD 97 undef = undef := (hf 24 _ 97 rfl rfl (by decide)).1
  have x98 : a.tmps.getD 98 undef = undef := (hf 25 _ 98 rfl rfl (by decide)).1
  have x99 : a.tmps.getD 99 undef = undef := (hf 26 _ 99 rfl rfl (by decide)).1
  have x100 : a.tmps.getD 100 undef = .bool false := (hf 27 _ 100 rfl rfl (by decide)).1
  have x101 : a.tmps.getD 101 undef = .bool false := (hf 28 _ 101 rfl rfl (by decide)).1
  have x102 := hx 102 s102 (by kernel_rfl) rfl
  have x103 := hx 103 s103 (by kernel_rfl) rfl
  have x104 := hx 104 s104 (by kernel_rfl) rfl
  have x105 := hx 105 s105 (by kernel_rfl) rfl
  have x106 := hx 106 s106 (by kernel_rfl) rfl
  have x107 := hx 107 s107 (by kernel_rfl) rfl
  have x108 := hx 108 s108 (by kernel_rfl) rfl
  have x109 := hx 109 s109 (by kernel_rfl) rfl
  have x110 := hx 110 s110 (by kernel_rfl) rfl
  have x111 := hx 111 s111 (by kernel_rfl) rfl
  have x112 := hx 112 s112 (by kernel_rfl) rfl
  have x113 := hx 113 s113 (by kernel_rfl) rfl
  have x114 := hx 114 s114 (by kernel_rfl) rfl
  have x115 := hx 115 s115 (by kernel_rfl) rfl
  have x116 := hx 116 s116 (by kernel_rfl) rfl
  have x117 := hx 117 s117 (by kernel_rfl) rfl
  have x118 := hx 118 s118 (by kernel_rfl) rfl
  have x119 := hx 119 s119 (by kernel_rfl) rfl
  have x120 := hx 120 s120 (by kernel_rfl) rfl
  have x121 := hx 121 s121 (by kernel_rfl) rfl
  have x122 := hx 122 s122 (by kernel_rfl) rfl
  have x123 := hx 123 s123 (by kernel_rfl) rfl
  have x124 := hx 124 s124 (by kernel_rfl) rfl
  have x125 := hx 125 s125 (by kernel_rfl) rfl
  have x126 := hx 126 s126 (by kernel_rfl) rfl
  have x127 := hx 127 s127 (by kernel_rfl) rfl
  have x128 := hx 128 s128 (by kernel_rfl) rfl
  have x129 := hx 129 s129 (by kernel_rfl) rfl
  have x130 := hx 130 s130 (by kernel_rfl) rfl
  have x131 := hx 131 s131 (by kernel_rfl) rfl
  have x132 := hx 132 s132 (by kernel_rfl) rfl
  have hl : a.tmps = (s0 :: s1 :: (.slice Av nv cv : Value) :: (.pointer (some ⟨b, 0, none⟩) : Value) :: (.pointer (some ⟨b + 1, 0, none⟩) : Value) :: s5 :: s6 :: s7 :: s8 :: (.int .i64 x : Value) :: (.int .i64 y : Value) :: (.pointer (some ⟨p, 0, none⟩) : Value) :: s12 :: s13 :: s14 :: s15 :: s16 :: s17 :: s18 :: s19 :: s20 :: s21 :: s22 :: s23 :: s24 :: s25 :: s26 :: s27 :: s28 :: s29 :: s30 :: s31 :: s32 :: s33 :: s34 :: s35 :: s36 :: s37 :: s38 :: s39 :: s40 :: s41 :: s42 :: s43 :: s44 :: s45 :: s46 :: s47 :: s48 :: s49 :: s50 :: s51 :: s52 :: s53 :: s54 :: s55 :: s56 :: s57 :: s58 :: s59 :: s60 :: s61 :: s62 :: s63 :: s64 :: s65 :: s66 :: s67 :: s68 :: s69 :: s70 :: s71 :: s72 :: (lvV Aa ca la : Value) :: (lvV Ab cb lb : Value) :: (.bool true : Value) :: (.bool true : Value) :: (.int .i64 x : Value) :: (.int .i64 y : Value) :: (.bool false : Value) :: (.bool false : Value) :: (.bool false : Value) :: (lvV Aa ca la : Value) :: (lvV Ab cb lb : Value) :: (.bool false : Value) :: (.bool false : Value) :: undef :: undef :: undef :: (.bool false : Value) :: (.bool false : Value) :: (.bool false : Value) :: (lvV Ar cr lr : Value) :: (.bool false : Value) :: (.bool false : Value) :: undef :: undef :: undef :: undef :: undef :: (.bool false : Value) :: (.bool false : Value) :: s102 :: s103 :: s104 :: s105 :: s106 :: s107 :: s108 :: s109 :: s110 :: s111 :: s112 :: s113 :: s114 :: s115 :: s116 :: s117 :: s118 :: s119 :: s120 :: s121 :: s122 :: s123 :: s124 :: s125 :: s126 :: s127 :: s128 :: s129 :: s130 :: s131 :: s132 :: ([] : List Value)).toArray := by
    have h := lit a.tmps 133 hs
    have e : ((List.range 133).map (fun i => a.tmps.getD i undef)).toArray = ((a.tmps.getD 0 undef : Value) :: (a.tmps.getD 1 undef : Value) :: (a.tmps.getD 2 undef : Value) :: (a.tmps.getD 3 undef : Value) :: (a.tmps.getD 4 undef : Value) :: (a.tmps.getD 5 undef : Value) :: (a.tmps.getD 6 undef : Value) :: (a.tmps.getD 7 undef : Value) :: (a.tmps.getD 8 undef : Value) :: (a.tmps.getD 9 undef : Value) :: (a.tmps.getD 10 undef : Value) :: (a.tmps.getD 11 undef : Value) :: (a.tmps.getD 12 undef : Value) :: (a.tmps.getD 13 undef : Value) :: (a.tmps.getD 14 undef : Value) :: (a.tmps.getD 15 undef : Value) :: (a.tmps.getD 16 undef : Value) :: (a.tmps.getD 17 undef : Value) :: (a.tmps.getD 18 undef : Value) :: (a.tmps.getD 19 undef : Value) :: (a.tmps.getD 20 undef : Value) :: (a.tmps.getD 21 undef : Value) :: (a.tmps.getD 22 undef : Value) :: (a.tmps.getD 23 undef : Value) :: (a.tmps.getD 24 undef : Value) :: (a.tmps.getD 25 undef : Value) :: (a.tmps.getD 26 undef : Value) :: (a.tmps.getD 27 undef : Value) :: (a.tmps.getD 28 undef : Value) :: (a.tmps.getD 29 undef : Value) :: (a.tmps.getD 30 undef : Value) :: (a.tmps.getD 31 undef : Value) :: (a.tmps.getD 32 undef : Value) :: (a.tmps.getD 33 undef : Value) :: (a.tmps.getD 34 undef : Value) :: (a.tmps.getD 35 undef : Value) :: (a.tmps.getD 36 undef : Value) :: (a.tmps.getD 37 undef : Value) :: (a.tmps.getD 38 undef : Value) :: (a.tmps.getD 39 undef : Value) :: (a.tmps.getD 40 undef : Value) :: (a.tmps.getD 41 undef : Value) :: (a.tmps.getD 42 undef : Value) :: (a.tmps.getD 43 undef : Value) :: (a.tmps.getD 44 undef : Value) :: (a.tmps.getD 45 undef : Value) :: (a.tmps.getD 46 undef : Value) :: (a.tmps.getD 47 undef : Value) :: (a.tmps.getD 48 undef : Value) :: (a.tmps.getD 49 undef : Value) :: (a.tmps.getD 50 undef : Value) :: (a.tmps.getD 51 undef : Value) :: (a.tmps.getD 52 undef : Value) :: (a.tmps.getD 53 undef : Value) :: (a.tmps.getD 54 undef : Value) :: (a.tmps.getD 55 undef : Value) :: (a.tmps.getD 56 undef : Value) :: (a.tmps.getD 57 undef : Value) :: (a.tmps.getD 58 undef : Value) :: (a.tmps.getD 59 undef : Value) :: (a.tmps.getD 60 undef : Value) :: (a.tmps.getD 61 undef : Value) :: (a.tmps.getD 62 undef : Value) :: (a.tmps.getD 63 undef : Value) :: (a.tmps.getD 64 undef : Value) :: (a.tmps.getD 65 undef : Value) :: (a.tmps.getD 66 undef : Value) :: (a.tmps.getD 67 undef : Value) :: (a.tmps.getD 68 undef : Value) :: (a.tmps.getD 69 undef : Value) :: (a.tmps.getD 70 undef : Value) :: (a.tmps.getD 71 undef : Value) :: (a.tmps.getD 72 undef : Value) :: (a.tmps.getD 73 undef : Value) :: (a.tmps.getD 74 undef : Value) :: (a.tmps.getD 75 undef : Value) :: (a.tmps.getD 76 undef : Value) :: (a.tmps.getD 77 undef : Value) :: (a.tmps.getD 78 undef : Value) :: (a.tmps.getD 79 undef : Value) :: (a.tmps.getD 80 undef : Value) :: (a.tmps.getD 81 undef : Value) :: (a.tmps.getD 82 undef : Value) :: (a.tmps.getD 83 undef : Value) :: (a.tmps.getD 84 undef : Value) :: (a.tmps.getD 85 undef : Value) :: (a.tmps.getD 86 undef : Value) :: (a.tmps.getD 87 undef : Value) :: (a.tmps.getD 88 undef : Value) :: (a.tmps.getD 89 undef : Value) :: (a.tmps.getD 90 undef : Value) :: (a.tmps.getD 91 undef : Value) :: (a.tmps.getD 92 undef : Value) :: (a.tmps.getD 93 undef : Value) :: (a.tmps.getD 94 undef : Value) :: (a.tmps.getD 95 undef : Value) :: (a.tmps.getD 96 undef : Value) :: (a.tmps.getD 97 undef : Value) :: (a.tmps.getD 98 undef : Value) :: (a.tmps.getD 99 undef : Value) :: (a.tmps.getD 100 undef : Value) :: (a.tmps.getD 101 undef : Value) :: (a.tmps.getD 102 undef : Value) :: (a.tmps.getD 103 undef : Value) :: (a.tmps.getD 104 undef : Value) :: (a.tmps.getD 105 undef : Value) :: (a.tmps.getD 106 undef : Value) :: (a.tmps.getD 107 undef : Value) :: (a.tmps.getD 108 undef : Value) :: (a.tmps.getD 109 undef : Value) :: (a.tmps.getD 110 undef : Value) :: (a.tmps.getD 111 undef : Value) :: (a.tmps.getD 112 undef : Value) :: (a.tmps.getD 113 undef : Value) :: (a.tmps.getD 114 undef : Value) :: (a.tmps.getD 115 undef : Value) :: (a.tmps.getD 116 undef : Value) :: (a.tmps.getD 117 undef : Value) :: (a.tmps.getD 118 undef : Value) :: (a.tmps.getD 119 undef : Value) :: (a.tmps.getD 120 undef : Value) :: (a.tmps.getD 121 undef : Value) :: (a.tmps.getD 122 undef : Value) :: (a.tmps.getD 123 undef : Value) :: (a.tmps.getD 124 undef : Value) :: (a.tmps.getD 125 undef : Value) :: (a.tmps.getD 126 undef : Value) :: (a.tmps.getD 127 undef : Value) :: (a.tmps.getD 128 undef : Value) :: (a.tmps.getD 129 undef : Value) :: (a.tmps.getD 130 undef : Value) :: (a.tmps.getD 131 undef : Value) :: (a.tmps.getD 132 undef : Value) :: ([] : List Value)).toArray := rfl
    rw [e, x0, x1, x2, x3, x4, x5, x6, x7, x8, x9, x10, x11, x12, x13, x14, x15, x16, x17, x18, x19, x20, x21, x22, x23, x24, x25, x26, x27, x28, x29, x30, x31, x32, x33, x34, x35, x36, x37, x38, x39, x40, x41, x42, x43, x44, x45, x46, x47, x48, x49, x50, x51, x52, x53, x54, x55, x56, x57, x58, x59, x60, x61, x62, x63, x64, x65, x66, x67, x68, x69, x70, x71, x72, x73, x74, x75, x76, x77, x78, x79, x80, x81, x82, x83, x84, x85, x86, x87, x88, x89, x90, x91, x92, x93, x94, x95, x96, x97, x98, x99, x100, x101, x102, x103, x104, x105, x106, x107, x108, x109, x110, x111, x112, x113, x114, x115, x116, x117, x118, x119, x120, x121, x122, x123, x124, x125, x126, x127, x128, x129, x130, x131, x132] at h
    exact h
  obtain ⟨tmps, defers⟩ := a
  obtain rfl : defers = [] := hd
  have hl' : tmps = _ := hl
  rw [hl']
  have hb' := est2_chg hb
  exact hend w' ⟨hb'.os, hb'.tape, hb'.output, hb'.size, hb'.block⟩

def ma001_F (w0 : World) (b p : Nat) (Aa Ab Ar Av : Option Addr) (ca cb cr nv cv : Nat) (la lb lr : Lv) (vs : List Int) (x y : Int) : Nat → (Nat → Value) → Value → World → (Nat → Prop) → Prop := fun rix => match rix with
  | 0 => fun _ v _ _ => v = lvV Aa ca la
  | 1 => fun _ v _ _ => v = lvV Ab cb lb
  | 2 => fun _ v _ _ => v = .bool false
  | 3 => fun _ v _ _ => v = .bool false
  | 4 => fun _ v _ _ => v = undef
  | 5 => fun _ v _ _ => v = undef
  | 6 => fun _ v _ _ => v = undef
  | 7 => fun _ v _ _ => v = .bool false
  | 8 => fun _ v _ _ => v = .bool false
  | 9 => fun _ v _ _ => v = lvV Aa ca la
  | 10 => fun _ v _ _ => v = lvV Ab cb lb
  | 11 => fun _ v _ _ => v = .bool false
  | 12 => fun _ v _ _ => v = .bool false
  | 13 => fun _ v _ _ => v = undef
  | 14 => fun _ v _ _ => v = undef
  | 15 => fun _ v _ _ => v = undef
  | 16 => fun _ v _ _ => v = .bool false
  | 17 => fun _ v _ _ => v = .bool false
  | 18 => fun _ v _ _ => v = .bool false
  | 19 => fun _ v _ _ => v = lvV Ar cr lr
  | 20 => fun _ v _ _ => v = .bool true
  | 21 => fun _ v _ _ => v = .bool true
  | 22 => fun _ v _ _ => v = lvV Ar cr lr
  | 23 => fun _ v _ _ => v = .slice Av nv cv
  | 24 => fun _ v _ _ => v = .int .i64 (valB vs lr)
  | 25 => fun _ v _ _ => v = .int .i64 x
  | 26 => fun _ v _ _ => v = .bool false
  | 27 => fun _ v _ _ => v = .bool false
  | 28 => fun _ v _ _ => v = .bool false
  | _ => fun _ _ _ _ => True
def ma001_C : Nat → List Nat := fun rix => match rix with
  | _ => []
theorem ma001_nw2 : nwB ma111_ops.toArray 2 = true := by kernel_rfl
theorem ma001_nw3 : nwB ma111_ops.toArray 3 = true := by kernel_rfl
theorem ma001_nw4 : nwB ma111_ops.toArray 4 = true := by kernel_rfl
theorem ma001_nw9 : nwB ma111_ops.toArray 9 = true := by kernel_rfl
theorem ma001_nw10 : nwB ma111_ops.toArray 10 = true := by kernel_rfl
theorem ma001_nw11 : nwB ma111_ops.toArray 11 = true := by kernel_rfl
set_option maxRecDepth 100000 in
set_option maxHeartbeats 8000000 in
theorem ma001_obs (w0 : World) (b p : Nat) (Aa Ab Ar Av : Option Addr) (ca cb cr nv cv : Nat) (la lb lr : Lv) (vs : List Int) (x y : Int) (hxa : w0.heap[b]? = some (.cells #[.int .i64 la.kind, .int .i64 la.num, .slice Aa la.kids.length ca] 24 (0, 0))) (hina : LvS w0 (fun k => k < w0.heap.size) Aa ca la) (hxb : w0.heap[b + 1]? = some (.cells #[.int .i64 lb.kind, .int .i64 lb.num, .slice Ab lb.kids.length cb] 24 (0, 0))) (hinb : LvS w0 (fun k => k < w0.heap.size) Ab cb lb) (hxr : w0.heap[p]? = some (.cells #[.int .i64 lr.kind, .int .i64 lr.num, .slice Ar lr.kids.length cr] 24 (0, 0))) (hinr : LvS w0 (fun k => k < w0.heap.size) Ar cr lr) (hv : ReadsInt w0 .i64 Av nv vs) (hlq : leqP la lb = false) (heq : eqP la lb = false) (hsr : soundB lr = true) (hrx : valB vs lr = x) (Q : Exit → Act → World → Prop) (a0 : Act) (hi2 : a0.tmps.getD 2 undef = .slice Av nv cv) (hi3 : a0.tmps.getD 3 undef = .pointer (some ⟨b, 0, none⟩)) (hi4 : a0.tmps.getD 4 undef = .pointer (some ⟨b + 1, 0, none⟩)) (hi9 : a0.tmps.getD 9 undef = .int .i64 x) (hi10 : a0.tmps.getD 10 undef = .int .i64 y) (hi11 : a0.tmps.getD 11 undef = .pointer (some ⟨p, 0, none⟩)) :
    ObsE Try.prog ma111_ops.toArray Q (est2 0 0 (fun _ => False) (fun _ => False)) ma001_C (ma001_F w0 b p Aa Ab Ar Av ca cb cr nv cv la lb lr vs x y) a0 w0 ma111_ops.toArray.toList 0 := by
  have nw2 := ma001_nw2
  have nw3 := ma001_nw3
  have nw4 := ma001_nw4
  have nw9 := ma001_nw9
  have nw10 := ma001_nw10
  have nw11 := ma001_nw11
  refine ⟨?_, ?_, ?_, ?_, ?_, ?_, ?_, ?_, ?_, ?_, ?_, ?_, ?_, ?_, ?_, ?_, ?_, ?_, ?_, ?_, ?_, ?_, ?_, ?_, ?_, ?_, ?_, ?_, ?_, trivial⟩
  · refine ⟨⟨fun τ => stableE_det _, leans_not⟩, ?_⟩
    intro a w O hk
    have e3 : a.eval (.tmp 3) = .pointer (some ⟨b, 0, none⟩) := (hk.init 3 (initialB_of_nw nw3)).trans hi3
    have x3 := hk.world.still hxa (fun ⟨_, h⟩ => h.elim And.right And.right)
    exact obE_loadRow rfl e3 x3 Try.underlying24 rfl (by kernel_rfl) (wanted_none rfl) rfl
  · refine ⟨⟨fun τ => stableE_det _, leans_not⟩, ?_⟩
    intro a w O hk
    have e4 : a.eval (.tmp 4) = .pointer (some ⟨b + 1, 0, none⟩) := (hk.init 4 (initialB_of_nw nw4)).trans hi4
    have x4 := hk.world.still hxb (fun ⟨_, h⟩ => h.elim And.right And.right)
    exact obE_loadRow rfl e4 x4 Try.underlying24 rfl (by kernel_rfl) (wanted_none rfl) rfl
  · refine ⟨⟨fun τ => stableE_det _, leans_not⟩, ?_⟩
    intro a w O hk
    have e73 : a.eval (.tmp 73) = lvV Aa ca la := hk.fact 0 _ 73 rfl rfl rfl rfl
    have e74 : a.eval (.tmp 74) = lvV Ab cb lb := hk.fact 1 _ 74 rfl rfl rfl rfl
    exact obE_lvLeq rfl (wanted_none rfl) (show LvV (fun k => k < w0.heap.size) la (a.eval (.tmp 73)) w (fun _ => False) by rw [e73]; exact LvV.old hina (fun k hk' => est2_fix hk' (fun h => h) (fun h => h)) hk.fix) (show LvV (fun k => k < w0.heap.size) lb (a.eval (.tmp 74)) w (fun _ => False) by rw [e74]; exact LvV.old hinb (fun k hk' => est2_fix hk' (fun h => h) (fun h => h)) hk.fix) hlq
  · refine ⟨⟨fun τ => stableE_det _, leans_not⟩, ?_⟩
    intro a w O hk
    have e75 : a.eval (.tmp 75) = .bool false := hk.fact 2 _ 75 rfl rfl rfl rfl
    exact toE (ob_move rfl e75 (wanted_none rfl) rfl)
  · refine ⟨⟨fun τ => stableE_det _, leans_not⟩, ?_⟩
    intro a w O hk
    have e9 : a.eval (.tmp 9) = .int .i64 x := (hk.init 9 (initialB_of_nw nw9)).trans hi9
    have e76 : a.eval (.tmp 76) = .bool false := hk.fact 3 _ 76 rfl rfl rfl rfl
    exact toE (ob_skip (unwanted_of rfl rfl rfl e76 (by decide)) rfl)
  · refine ⟨⟨fun τ => stableE_det _, leans_not⟩, ?_⟩
    intro a w O hk
    have e10 : a.eval (.tmp 10) = .int .i64 y := (hk.init 10 (initialB_of_nw nw10)).trans hi10
    have e76 : a.eval (.tmp 76) = .bool false := hk.fact 3 _ 76 rfl rfl rfl rfl
    exact toE (ob_skip (unwanted_of rfl rfl rfl e76 (by decide)) rfl)
  · refine ⟨⟨fun τ => stableE_det _, leans_not⟩, ?_⟩
    intro a w O hk
    have e77 : a.eval (.tmp 77) = undef := hk.fact 4 _ 77 rfl rfl rfl rfl
    have e78 : a.eval (.tmp 78) = undef := hk.fact 5 _ 78 rfl rfl rfl rfl
    have e76 : a.eval (.tmp 76) = .bool false := hk.fact 3 _ 76 rfl rfl rfl rfl
    exact toE (ob_skip (unwanted_of rfl rfl rfl e76 (by decide)) rfl)
  · refine ⟨⟨fun τ => stableE_det _, leans_not⟩, ?_⟩
    intro a w O hk
    have e76 : a.eval (.tmp 76) = .bool false := hk.fact 3 _ 76 rfl rfl rfl rfl
    have e79 : a.eval (.tmp 79) = undef := hk.fact 6 _ 79 rfl rfl rfl rfl
    exact toE (ob_pick rfl e76 rfl (wanted_none rfl) rfl)
  · refine ⟨⟨fun τ => stableE_det _, leans_not⟩, ?_⟩
    intro a w O hk
    have e80 : a.eval (.tmp 80) = .bool false := hk.fact 7 _ 80 rfl rfl rfl rfl
    exact toE (ob_move rfl e80 (wanted_none rfl) rfl)
  · refine ⟨⟨fun τ => stableE_det _, leans_not⟩, ?_⟩
    intro a w O hk
    have e3 : a.eval (.tmp 3) = .pointer (some ⟨b, 0, none⟩) := (hk.init 3 (initialB_of_nw nw3)).trans hi3
    have e81 : a.eval (.tmp 81) = .bool false := hk.fact 8 _ 81 rfl rfl rfl rfl
    have x3 := hk.world.still hxa (fun ⟨_, h⟩ => h.elim And.right And.right)
    exact obE_loadRow rfl e3 x3 Try.underlying24 rfl (by kernel_rfl) (wanted_of rfl rfl rfl e81) rfl
  · refine ⟨⟨fun τ => stableE_det _, leans_not⟩, ?_⟩
    intro a w O hk
    have e4 : a.eval (.tmp 4) = .pointer (some ⟨b + 1, 0, none⟩) := (hk.init 4 (initialB_of_nw nw4)).trans hi4
    have e81 : a.eval (.tmp 81) = .bool false := hk.fact 8 _ 81 rfl rfl rfl rfl
    have x4 := hk.world.still hxb (fun ⟨_, h⟩ => h.elim And.right And.right)
    exact obE_loadRow rfl e4 x4 Try.underlying24 rfl (by kernel_rfl) (wanted_of rfl rfl rfl e81) rfl
  · refine ⟨⟨fun τ => stableE_det _, leans_not⟩, ?_⟩
    intro a w O hk
    have e82 : a.eval (.tmp 82) = lvV Aa ca la := hk.fact 9 _ 82 rfl rfl rfl rfl
    have e83 : a.eval (.tmp 83) = lvV Ab cb lb := hk.fact 10 _ 83 rfl rfl rfl rfl
    have e81 : a.eval (.tmp 81) = .bool false := hk.fact 8 _ 81 rfl rfl rfl rfl
    exact obE_lvEqual rfl (wanted_of rfl rfl rfl e81) (show LvV (fun k => k < w0.heap.size) la (a.eval (.tmp 82)) w (fun _ => False) by rw [e82]; exact LvV.old hina (fun k hk' => est2_fix hk' (fun h => h) (fun h => h)) hk.fix) (show LvV (fun k => k < w0.heap.size) lb (a.eval (.tmp 83)) w (fun _ => False) by rw [e83]; exact LvV.old hinb (fun k hk' => est2_fix hk' (fun h => h) (fun h => h)) hk.fix) heq
  · refine ⟨⟨fun τ => stableE_det _, leans_not⟩, ?_⟩
    intro a w O hk
    have e84 : a.eval (.tmp 84) = .bool false := hk.fact 11 _ 84 rfl rfl rfl rfl
    have e81 : a.eval (.tmp 81) = .bool false := hk.fact 8 _ 81 rfl rfl rfl rfl
    exact toE (ob_move rfl e84 (wanted_of rfl rfl rfl e81) rfl)
  · refine ⟨⟨fun τ => stableE_det _, leans_not⟩, ?_⟩
    intro a w O hk
    have e9 : a.eval (.tmp 9) = .int .i64 x := (hk.init 9 (initialB_of_nw nw9)).trans hi9
    have e85 : a.eval (.tmp 85) = .bool false := hk.fact 12 _ 85 rfl rfl rfl rfl
    exact toE (ob_skip (unwanted_of rfl rfl rfl e85 (by decide)) rfl)
  · refine ⟨⟨fun τ => stableE_det _, leans_not⟩, ?_⟩
    intro a w O hk
    have e10 : a.eval (.tmp 10) = .int .i64 y := (hk.init 10 (initialB_of_nw nw10)).trans hi10
    have e85 : a.eval (.tmp 85) = .bool false := hk.fact 12 _ 85 rfl rfl rfl rfl
    exact toE (ob_skip (unwanted_of rfl rfl rfl e85 (by decide)) rfl)
  · refine ⟨⟨fun τ => stableE_det _, leans_not⟩, ?_⟩
    intro a w O hk
    have e86 : a.eval (.tmp 86) = undef := hk.fact 13 _ 86 rfl rfl rfl rfl
    have e87 : a.eval (.tmp 87) = undef := hk.fact 14 _ 87 rfl rfl rfl rfl
    have e85 : a.eval (.tmp 85) = .bool false := hk.fact 12 _ 85 rfl rfl rfl rfl
    exact toE (ob_skip (unwanted_of rfl rfl rfl e85 (by decide)) rfl)
  · refine ⟨⟨fun τ => stableE_det _, leans_not⟩, ?_⟩
    intro a w O hk
    have e85 : a.eval (.tmp 85) = .bool false := hk.fact 12 _ 85 rfl rfl rfl rfl
    have e88 : a.eval (.tmp 88) = undef := hk.fact 15 _ 88 rfl rfl rfl rfl
    have e81 : a.eval (.tmp 81) = .bool false := hk.fact 8 _ 81 rfl rfl rfl rfl
    exact toE (ob_pick rfl e85 rfl (wanted_of rfl rfl rfl e81) rfl)
  · refine ⟨⟨fun τ => stableE_det _, leans_not⟩, ?_⟩
    intro a w O hk
    have e81 : a.eval (.tmp 81) = .bool false := hk.fact 8 _ 81 rfl rfl rfl rfl
    have e89 : a.eval (.tmp 89) = .bool false := hk.fact 16 _ 89 rfl rfl rfl rfl
    exact toE (ob_pick rfl e81 e89 (wanted_none rfl) rfl)
  · refine ⟨⟨fun τ => stableE_det _, leans_not⟩, ?_⟩
    intro a w O hk
    have e90 : a.eval (.tmp 90) = .bool false := hk.fact 17 _ 90 rfl rfl rfl rfl
    exact toE (ob_move rfl e90 (wanted_none rfl) rfl)
  · refine ⟨⟨fun τ => stableE_det _, leans_not⟩, ?_⟩
    intro a w O hk
    have e11 : a.eval (.tmp 11) = .pointer (some ⟨p, 0, none⟩) := (hk.init 11 (initialB_of_nw nw11)).trans hi11
    have e91 : a.eval (.tmp 91) = .bool false := hk.fact 18 _ 91 rfl rfl rfl rfl
    have x11 := hk.world.still hxr (fun ⟨_, h⟩ => h.elim And.right And.right)
    exact obE_loadRow rfl e11 x11 Try.underlying24 rfl (by kernel_rfl) (wanted_of rfl rfl rfl e91) rfl
  · refine ⟨⟨fun τ => stableE_det _, leans_not⟩, ?_⟩
    intro a w O hk
    have e92 : a.eval (.tmp 92) = lvV Ar cr lr := hk.fact 19 _ 92 rfl rfl rfl rfl
    have e91 : a.eval (.tmp 91) = .bool false := hk.fact 18 _ 91 rfl rfl rfl rfl
    exact obE_callV #[lvV Ar cr lr] rfl rfl rfl rfl (by simp only [List.map_cons, List.map_nil]; rw [e92]) (wanted_of rfl rfl rfl e91) (by have h := refSound_calls Ar cr lr w (LvS.all (LvS.same hinr (fun k hk' _ => hk.fix k ((fun k hk' => est2_fix hk' (fun h => h) (fun h => h)) k hk')))); rwa [hsr] at h)
  · refine ⟨⟨fun τ => stableE_det _, leans_not⟩, ?_⟩
    intro a w O hk
    have e93 : a.eval (.tmp 93) = .bool true := hk.fact 20 _ 93 rfl rfl rfl rfl
    have e91 : a.eval (.tmp 91) = .bool false := hk.fact 18 _ 91 rfl rfl rfl rfl
    exact toE (ob_move rfl e93 (wanted_of rfl rfl rfl e91) rfl)
  · refine ⟨⟨fun τ => stableE_det _, leans_not⟩, ?_⟩
    intro a w O hk
    have e11 : a.eval (.tmp 11) = .pointer (some ⟨p, 0, none⟩) := (hk.init 11 (initialB_of_nw nw11)).trans hi11
    have e94 : a.eval (.tmp 94) = .bool true := hk.fact 21 _ 94 rfl rfl rfl rfl
    have x11 := hk.world.still hxr (fun ⟨_, h⟩ => h.elim And.right And.right)
    exact obE_loadRow rfl e11 x11 Try.underlying24 rfl (by kernel_rfl) (wanted_of rfl rfl rfl e94) rfl
  · refine ⟨⟨fun τ => stableE_det _, leans_not⟩, ?_⟩
    intro a w O hk
    have e2 : a.eval (.tmp 2) = .slice Av nv cv := (hk.init 2 (initialB_of_nw nw2)).trans hi2
    have e94 : a.eval (.tmp 94) = .bool true := hk.fact 21 _ 94 rfl rfl rfl rfl
    exact toE (ob_move rfl e2 (wanted_of rfl rfl rfl e94) rfl)
  · refine ⟨⟨fun τ => stableE_det _, leans_not⟩, ?_⟩
    intro a w O hk
    have e95 : a.eval (.tmp 95) = lvV Ar cr lr := hk.fact 22 _ 95 rfl rfl rfl rfl
    have e96 : a.eval (.tmp 96) = .slice Av nv cv := hk.fact 23 _ 96 rfl rfl rfl rfl
    have e94 : a.eval (.tmp 94) = .bool true := hk.fact 21 _ 94 rfl rfl rfl rfl
    exact obE_callV #[lvV Ar cr lr, .slice Av nv cv] rfl rfl rfl rfl (by simp only [List.map_cons, List.map_nil]; rw [e95, e96]) (wanted_of rfl rfl rfl e94) (value_calls Ar Av cr nv cv lr vs w (LvS.all (LvS.same hinr (fun k hk' _ => hk.fix k ((fun k hk' => est2_fix hk' (fun h => h) (fun h => h)) k hk')))) (ReadsInt.still hv fun k hk' => hk.fix k (est2_fix hk' (fun h => h) (fun h => h))))
  · refine ⟨⟨fun τ => stableE_det _, leans_not⟩, ?_⟩
    intro a w O hk
    have e9 : a.eval (.tmp 9) = .int .i64 x := (hk.init 9 (initialB_of_nw nw9)).trans hi9
    have e94 : a.eval (.tmp 94) = .bool true := hk.fact 21 _ 94 rfl rfl rfl rfl
    exact toE (ob_move rfl e9 (wanted_of rfl rfl rfl e94) rfl)
  · refine ⟨⟨fun τ => stableE_det _, leans_not⟩, ?_⟩
    intro a w O hk
    have e97 : a.eval (.tmp 97) = .int .i64 (valB vs lr) := hk.fact 24 _ 97 rfl rfl rfl rfl
    have e98 : a.eval (.tmp 98) = .int .i64 x := hk.fact 25 _ 98 rfl rfl rfl rfl
    have e94 : a.eval (.tmp 94) = .bool true := hk.fact 21 _ 94 rfl rfl rfl rfl
    exact toE (ob_neqInt false rfl e97 e98 (by simpa using hrx) (wanted_of rfl rfl rfl e94) rfl)
  · refine ⟨⟨fun τ => stableE_det _, leans_not⟩, ?_⟩
    intro a w O hk
    have e94 : a.eval (.tmp 94) = .bool true := hk.fact 21 _ 94 rfl rfl rfl rfl
    have e99 : a.eval (.tmp 99) = .bool false := hk.fact 26 _ 99 rfl rfl rfl rfl
    have e91 : a.eval (.tmp 91) = .bool false := hk.fact 18 _ 91 rfl rfl rfl rfl
    exact toE (ob_pick rfl e94 e99 (wanted_of rfl rfl rfl e91) rfl)
  · refine ⟨⟨fun τ => stableE_det _, leans_not⟩, ?_⟩
    intro a w O hk
    have e91 : a.eval (.tmp 91) = .bool false := hk.fact 18 _ 91 rfl rfl rfl rfl
    have e100 : a.eval (.tmp 100) = .bool false := hk.fact 27 _ 100 rfl rfl rfl rfl
    exact toE (ob_pick rfl e91 e100 (wanted_none rfl) rfl)
set_option maxRecDepth 100000 in
set_option maxHeartbeats 8000000 in
theorem ma001_region {Q : Exit → Act → World → Prop} {id : Nat} (w0 : World) (b p : Nat) (Aa Ab Ar Av : Option Addr) (ca cb cr nv cv : Nat) (la lb lr : Lv) (vs : List Int) (x y : Int) {s0 s1 s5 s6 s7 s8 s12 s13 s14 s15 s16 s17 s18 s19 s20 s21 s22 s23 s24 s25 s26 s27 s28 s29 s30 s31 s32 s33 s34 s35 s36 s37 s38 s39 s40 s41 s42 s43 s44 s45 s46 s47 s48 s49 s50 s51 s52 s53 s54 s55 s56 s57 s58 s59 s60 s61 s62 s63 s64 s65 s66 s67 s68 s69 s70 s71 s72 s73 s74 s75 s76 s77 s78 s79 s80 s81 s82 s83 s84 s85 s86 s87 s88 s89 s90 s91 s92 s93 s94 s95 s96 s97 s98 s99 s100 s101 s102 s103 s104 s105 s106 s107 s108 s109 s110 s111 s112 s113 s114 s115 s116 s117 s118 s119 s120 s121 s122 s123 s124 s125 s126 s127 s128 s129 s130 s131 s132 : Value} (hxa : w0.heap[b]? = some (.cells #[.int .i64 la.kind, .int .i64 la.num, .slice Aa la.kids.length ca] 24 (0, 0))) (hina : LvS w0 (fun k => k < w0.heap.size) Aa ca la) (hxb : w0.heap[b + 1]? = some (.cells #[.int .i64 lb.kind, .int .i64 lb.num, .slice Ab lb.kids.length cb] 24 (0, 0))) (hinb : LvS w0 (fun k => k < w0.heap.size) Ab cb lb) (hxr : w0.heap[p]? = some (.cells #[.int .i64 lr.kind, .int .i64 lr.num, .slice Ar lr.kids.length cr] 24 (0, 0))) (hinr : LvS w0 (fun k => k < w0.heap.size) Ar cr lr) (hv : ReadsInt w0 .i64 Av nv vs) (hlq : leqP la lb = false) (heq : eqP la lb = false) (hsr : soundB lr = true) (hrx : valB vs lr = x)
    (hend : ∀ (w' : World), Chg (fun k => False ∨ False) w0 w' → Q .normal { tmps := (s0 :: s1 :: (.slice Av nv cv : Value) :: (.pointer (some ⟨b, 0, none⟩) : Value) :: (.pointer (some ⟨b + 1, 0, none⟩) : Value) :: s5 :: s6 :: s7 :: s8 :: (.int .i64 x : Value) :: (.int .i64 y : Value) :: (.pointer (some ⟨p, 0, none⟩) : Value) :: s12 :: s13 :: s14 :: s15 :: s16 :: s17 :: s18 :: s19 :: s20 :: s21 :: s22 :: s23 :: s24 :: s25 :: s26 :: s27 :: s28 :: s29 :: s30 :: s31 :: s32 :: s33 :: s34 :: s35 :: s36 :: s37 :: s38 :: s39 :: s40 :: s41 :: s42 :: s43 :: s44 :: s45 :: s46 :: s47 :: s48 :: s49 :: s50 :: s51 :: s52 :: s53 :: s54 :: s55 :: s56 :: s57 :: s58 :: s59 :: s60 :: s61 :: s62 :: s63 :: s64 :: s65 :: s66 :: s67 :: s68 :: s69 :: s70 :: s71 :: s72 :: (lvV Aa ca la : Value) :: (lvV Ab cb lb : Value) :: (.bool false : Value) :: (.bool false : Value) :: undef :: undef :: undef :: (.bool false : Value) :: (.bool false : Value) :: (lvV Aa ca la : Value) :: (lvV Ab cb lb : Value) :: (.bool false : Value) :: (.bool false : Value) :: undef :: undef :: undef :: (.bool false : Value) :: (.bool false : Value) :: (.bool false : Value) :: (lvV Ar cr lr : Value) :: (.bool true : Value) :: (.bool true : Value) :: (lvV Ar cr lr : Value) :: (.slice Av nv cv : Value) :: (.int .i64 (valB vs lr) : Value) :: (.int .i64 x : Value) :: (.bool false : Value) :: (.bool false : Value) :: (.bool false : Value) :: s102 :: s103 :: s104 :: s105 :: s106 :: s107 :: s108 :: s109 :: s110 :: s111 :: s112 :: s113 :: s114 :: s115 :: s116 :: s117 :: s118 :: s119 :: s120 :: s121 :: s122 :: s123 :: s124 :: s125 :: s126 :: s127 :: s128 :: s129 :: s130 :: s131 :: s132 :: ([] : List Value)).toArray, defers := [] } w') :
    (Code.region id ma111_ops.toArray false).wp Try.prog Q { tmps := (s0 :: s1 :: (.slice Av nv cv : Value) :: (.pointer (some ⟨b, 0, none⟩) : Value) :: (.pointer (some ⟨b + 1, 0, none⟩) : Value) :: s5 :: s6 :: s7 :: s8 :: (.int .i64 x : Value) :: (.int .i64 y : Value) :: (.pointer (some ⟨p, 0, none⟩) : Value) :: s12 :: s13 :: s14 :: s15 :: s16 :: s17 :: s18 :: s19 :: s20 :: s21 :: s22 :: s23 :: s24 :: s25 :: s26 :: s27 :: s28 :: s29 :: s30 :: s31 :: s32 :: s33 :: s34 :: s35 :: s36 :: s37 :: s38 :: s39 :: s40 :: s41 :: s42 :: s43 :: s44 :: s45 :: s46 :: s47 :: s48 :: s49 :: s50 :: s51 :: s52 :: s53 :: s54 :: s55 :: s56 :: s57 :: s58 :: s59 :: s60 :: s61 :: s62 :: s63 :: s64 :: s65 :: s66 :: s67 :: s68 :: s69 :: s70 :: s71 :: s72 :: s73 :: s74 :: s75 :: s76 :: s77 :: s78 :: s79 :: s80 :: s81 :: s82 :: s83 :: s84 :: s85 :: s86 :: s87 :: s88 :: s89 :: s90 :: s91 :: s92 :: s93 :: s94 :: s95 :: s96 :: s97 :: s98 :: s99 :: s100 :: s101 :: s102 :: s103 :: s104 :: s105 :: s106 :: s107 :: s108 :: s109 :: s110 :: s111 :: s112 :: s113 :: s114 :: s115 :: s116 :: s117 :: s118 :: s119 :: s120 :: s121 :: s122 :: s123 :: s124 :: s125 :: s126 :: s127 :: s128 :: s129 :: s130 :: s131 :: s132 :: ([] : List Value)).toArray, defers := [] } w0 := by
  refine wp_region_est0 (est2 0 0 (fun _ => False) (fun _ => False)) ma001_C (ma001_F w0 b p Aa Ab Ar Av ca cb cr nv cv la lb lr vs x y) (est2_dis (fun _ h _ => h)) (est2_range (fun _ h => h.elim) (fun _ h => h.elim)) (by rfl) (by kernel_rfl) (ma001_obs w0 b p Aa Ab Ar Av ca cb cr nv cv la lb lr vs x y hxa hina hxb hinb hxr hinr hv hlq heq hsr hrx _ _ rfl rfl rfl rfl rfl rfl) ?_
  intro a w' O hd hs hb hf hf2 ha hsame
  have hx : ∀ (qi : Nat) (qv : Value), nwB ma111_ops.toArray qi = true → (s0 :: s1 :: (.slice Av nv cv : Value) :: (.pointer (some ⟨b, 0, none⟩) : Value) :: (.pointer (some ⟨b + 1, 0, none⟩) : Value) :: s5 :: s6 :: s7 :: s8 :: (.int .i64 x : Value) :: (.int .i64 y : Value) :: (.pointer (some ⟨p, 0, none⟩) : Value) :: s12 :: s13 :: s14 :: s15 :: s16 :: s17 :: s18 :: s19 :: s20 :: s21 :: s22 :: s23 :: s24 :: s25 :: s26 :: s27 :: s28 :: s29 :: s30 :: s31 :: s32 :: s33 :: s34 :: s35 :: s36 :: s37 :: s38 :: s39 :: s40 :: s41 :: s42 :: s43 :: s44 :: s45 :: s46 :: s47 :: s48 :: s49 :: s50 :: s51 :: s52 :: s53 :: s54 :: s55 :: s56 :: s57 :: s58 :: s59 :: s60 :: s61 :: s62 :: s63 :: s64 :: s65 :: s66 :: s67 :: s68 :: s69 :: s70 :: s71 :: s72 :: s73 :: s74 :: s75 :: s76 :: s77 :: s78 :: s79 :: s80 :: s81 :: s82 :: s83 :: s84 :: s85 :: s86 :: s87 :: s88 :: s89 :: s90 :: s91 :: s92 :: s93 :: s94 :: s95 :: s96 :: s97 :: s98 :: s99 :: s100 :: s101 :: s102 :: s103 :: s104 :: s105 :: s106 :: s107 :: s108 :: s109 :: s110 :: s111 :: s112 :: s113 :: s114 :: s115 :: s116 :: s117 :: s118 :: s119 :: s120 :: s121 :: s122 :: s123 :: s124 :: s125 :: s126 :: s127 :: s128 :: s129 :: s130 :: s131 :: s132 :: ([] : List Value)).toArray.getD qi undef = qv → a.tmps.getD qi undef = qv := fun qi qv h e => (hsame qi (nwB.spec h)).trans e
  have x0 := hx 0 s0 (by kernel_rfl) rfl
  have x1 := hx 1 s1 (by kernel_rfl) rfl
  have x2 := hx 2 (.slice Av nv cv) (by kernel_rfl) rfl
  have x3 := hx 3 (.pointer (some ⟨b, 0, none⟩)) (by kernel_rfl) rfl
  have x4 := hx 4 (.pointer (some ⟨b + 1, 0, none⟩)) (by kernel_rfl) rfl
  have x5 := hx 5 s5 (by kernel_rfl) rfl
  have x6 := hx 6 s6 (by kernel_rfl) rfl
  have x7 := hx 7 s7 (by kernel_rfl) rfl
  have x8 := hx 8 s8 (by kernel_rfl) rfl
  have x9 := hx 9 (.int .i64 x) (by kernel_rfl) rfl
  have x10 := hx 10 (.int .i64 y) (by kernel_rfl) rfl
  have x11 := hx 11 (.pointer (some ⟨p, 0, none⟩)) (by kernel_rfl) rfl
  have x12 := hx 12 s12 (by kernel_rfl) rfl
  have x13 := hx 13 s13 (by kernel_rfl) rfl
  have x14 := hx 14 s14 (by kernel_rfl) rfl
  have x15 := hx 15 s15 (by kernel_rfl) rfl
  have x16 := hx 16 s16 (by kernel_rfl) rfl
  have x17 := hx 17 s17 (by kernel_rfl) rfl
  have x18 := hx 18 s18 (by kernel_rfl) rfl
  have x19 := hx 19 s19 (by kernel_rfl) rfl
  have x20 := hx 20 s20 (by kernel_rfl) rfl
  have x21 := hx 21 s21 (by kernel_rfl) rfl
  have x22 := hx 22 s22 (by kernel_rfl) rfl
  have x23 := hx 23 s23 (by kernel_rfl) rfl
  have x24 := hx 24 s24 (by kernel_rfl) rfl
  have x25 := hx 25 s25 (by kernel_rfl) rfl
  have x26 := hx 26 s26 (by kernel_rfl) rfl
  have x27 := hx 27 s27 (by kernel_rfl) rfl
  have x28 := hx 28 s28 (by kernel_rfl) rfl
  have x29 := hx 29 s29 (by kernel_rfl) rfl
  have x30 := hx 30 s30 (by kernel_rfl) rfl
  have x31 := hx 31 s31 (by kernel_rfl) rfl
  have x32 := hx 32 s32 (by kernel_rfl) rfl
  have x33 := hx 33 s33 (by kernel_rfl) rfl
  have x34 := hx 34 s34 (by kernel_rfl) rfl
  have x35 := hx 35 s35 (by kernel_rfl) rfl
  have x36 := hx 36 s36 (by kernel_rfl) rfl
  have x37 := hx 37 s37 (by kernel_rfl) rfl
  have x38 := hx 38 s38 (by kernel_rfl) rfl
  have x39 := hx 39 s39 (by kernel_rfl) rfl
  have x40 := hx 40 s40 (by kernel_rfl) rfl
  have x41 := hx 41 s41 (by kernel_rfl) rfl
  have x42 := hx 42 s42 (by kernel_rfl) rfl
  have x43 := hx 43 s43 (by kernel_rfl) rfl
  have x44 := hx 44 s44 (by kernel_rfl) rfl
  have x45 := hx 45 s45 (by kernel_rfl) rfl
  have x46 := hx 46 s46 (by kernel_rfl) rfl
  have x47 := hx 47 s47 (by kernel_rfl) rfl
  have x48 := hx 48 s48 (by kernel_rfl) rfl
  have x49 := hx 49 s49 (by kernel_rfl) rfl
  have x50 := hx 50 s50 (by kernel_rfl) rfl
  have x51 := hx 51 s51 (by kernel_rfl) rfl
  have x52 := hx 52 s52 (by kernel_rfl) rfl
  have x53 := hx 53 s53 (by kernel_rfl) rfl
  have x54 := hx 54 s54 (by kernel_rfl) rfl
  have x55 := hx 55 s55 (by kernel_rfl) rfl
  have x56 := hx 56 s56 (by kernel_rfl) rfl
  have x57 := hx 57 s57 (by kernel_rfl) rfl
  have x58 := hx 58 s58 (by kernel_rfl) rfl
  have x59 := hx 59 s59 (by kernel_rfl) rfl
  have x60 := hx 60 s60 (by kernel_rfl) rfl
  have x61 := hx 61 s61 (by kernel_rfl) rfl
  have x62 := hx 62 s62 (by kernel_rfl) rfl
  have x63 := hx 63 s63 (by kernel_rfl) rfl
  have x64 := hx 64 s64 (by kernel_rfl) rfl
  have x65 := hx 65 s65 (by kernel_rfl) rfl
  have x66 := hx 66 s66 (by kernel_rfl) rfl
  have x67 := hx 67 s67 (by kernel_rfl) rfl
  have x68 := hx 68 s68 (by kernel_rfl) rfl
  have x69 := hx 69 s69 (by kernel_rfl) rfl
  have x70 := hx 70 s70 (by kernel_rfl) rfl
  have x71 := hx 71 s71 (by kernel_rfl) rfl
  have x72 := hx 72 s72 (by kernel_rfl) rfl
  have x73 : a.tmps.getD 73 undef = lvV Aa ca la := (hf 0 _ 73 rfl rfl (by decide)).1
  have x74 : a.tmps.getD 74 undef = lvV Ab cb lb := (hf 1 _ 74 rfl rfl (by decide)).1
  have x75 : a.tmps.getD 75 undef = .bool false := (hf 2 _ 75 rfl rfl (by decide)).1
  have x76 : a.tmps.getD 76 undef = .bool false := (hf 3 _ 76 rfl rfl (by decide)).1
  have x77 : a.tmps.getD 77 undef = undef := (hf 4 _ 77 rfl rfl (by decide)).1
  have x78 : a.tmps.getD 78 undef = undef := (hf 5 _ 78 rfl rfl (by decide)).1
  have x79 : a.tmps.getD 79 undef = undef := (hf 6 _ 79 rfl rfl (by decide)).1
  have x80 : a.tmps.getD 80 undef = .bool false := (hf 7 _ 80 rfl rfl (by decide)).1
  have x81 : a.tmps.getD 81 undef = .bool false := (hf 8 _ 81 rfl rfl (by decide)).1
  have x82 : a.tmps.getD 82 undef = lvV Aa ca la := (hf 9 _ 82 rfl rfl (by decide)).1
  have x83 : a.tmps.getD 83 undef = lvV Ab cb lb := (hf 10 _ 83 rfl rfl (by decide)).1
  have x84 : a.tmps.getD 84 undef = .bool false := (hf 11 _ 84 rfl rfl (by decide)).1
  have x85 : a.tmps.getD 85 undef = .bool false := (hf 12 _ 85 rfl rfl (by decide)).1
  have x86 : a.tmps.getD 86 undef = undef := (hf 13 _ 86 rfl rfl (by decide)).1
  have x87 : a.tmps.getD 87 undef = undef := (hf 14 _ 87 rfl rfl (by decide)).1
  have x88 : a.tmps.getD 88 undef = undef := (hf 15 _ 88 rfl rfl (by decide)).1
  have x89 : a.tmps.getD 89 undef = .bool false := (hf 16 _ 89 rfl rfl (by decide)).1
  have x90 : a.tmps.getD 90 undef = .bool false := (hf 17 _ 90 rfl rfl (by decide)).1
  have x91 : a.tmps.getD 91 undef = .bool false := (hf 18 _ 91 rfl rfl (by decide)).1
  have x92 : a.tmps.getD 92 undef = lvV Ar cr lr := (hf 19 _ 92 rfl rfl (by decide)).1
  have x93 : a.tmps.getD 93 undef = .bool true := (hf 20 _ 93 rfl rfl (by decide)).1
  have x94 : a.tmps.getD 94 undef = .bool true := (hf 21 _ 94 rfl rfl (by decide)).1
  have x95 : a.tmps.getD 95 undef = lvV Ar cr lr := (hf 22 _ 95 rfl rfl (by decide)).1
  have x96 : a.tmps.getD 96 undef = .slice Av nv cv := (hf 23 _ 96 rfl rfl (by decide)).1
  have x97 : a.tmps.getD 97 undef = .int .i64 (valB vs lr) := (hf 24 _ 97 rfl rfl (by decide)).1
  have x98 : a.tmps.getD 98 undef = .int .i64 x := (hf 25 _ 98 rfl rfl (by decide)).1
  have x99 : a.tmps.getD 99 undef = .bool false := (hf 26 _ 99 rfl rfl (by decide)).1
  have x100 : a.tmps.getD 100 undef = .bool false := (hf 27 _ 100 rfl rfl (by decide)).1
  have x101 : a.tmps.getD 101 undef = .bool false := (hf 28 _ 101 rfl rfl (by decide)).1
  have x102 := hx 102 s102 (by kernel_rfl) rfl
  have x103 := hx 103 s103 (by kernel_rfl) rfl
  have x104 := hx 104 s104 (by kernel_rfl) rfl
  have x105 := hx 105 s105 (by kernel_rfl) rfl
  have x106 := hx 106 s106 (by kernel_rfl) rfl
  have x107 := hx 107 s107 (by kernel_rfl) rfl
  have x108 := hx 108 s108 (by kernel_rfl) rfl
  have x109 := hx 109 s109 (by kernel_rfl) rfl
  have x110 := hx 110 s110 (by kernel_rfl) rfl
  have x111 := hx 111 s111 (by kernel_rfl) rfl
  have x112 := hx 112 s112 (by kernel_rfl) rfl
  have x113 := hx 113 s113 (by kernel_rfl) rfl
  have x114 := hx 114 s114 (by kernel_rfl) rfl
  have x115 := hx 115 s115 (by kernel_rfl) rfl
  have x116 := hx 116 s116 (by kernel_rfl) rfl
  have x117 := hx 117 s117 (by kernel_rfl) rfl
  have x118 := hx 118 s118 (by kernel_rfl) rfl
  have x119 := hx 119 s119 (by kernel_rfl) rfl
  have x120 := hx 120 s120 (by kernel_rfl) rfl
  have x121 := hx 121 s121 (by kernel_rfl) rfl
  have x122 := hx 122 s122 (by kernel_rfl) rfl
  have x123 := hx 123 s123 (by kernel_rfl) rfl
  have x124 := hx 124 s124 (by kernel_rfl) rfl
  have x125 := hx 125 s125 (by kernel_rfl) rfl
  have x126 := hx 126 s126 (by kernel_rfl) rfl
  have x127 := hx 127 s127 (by kernel_rfl) rfl
  have x128 := hx 128 s128 (by kernel_rfl) rfl
  have x129 := hx 129 s129 (by kernel_rfl) rfl
  have x130 := hx 130 s130 (by kernel_rfl) rfl
  have x131 := hx 131 s131 (by kernel_rfl) rfl
  have x132 := hx 132 s132 (by kernel_rfl) rfl
  have hl : a.tmps = (s0 :: s1 :: (.slice Av nv cv : Value) :: (.pointer (some ⟨b, 0, none⟩) : Value) :: (.pointer (some ⟨b + 1, 0, none⟩) : Value) :: s5 :: s6 :: s7 :: s8 :: (.int .i64 x : Value) :: (.int .i64 y : Value) :: (.pointer (some ⟨p, 0, none⟩) : Value) :: s12 :: s13 :: s14 :: s15 :: s16 :: s17 :: s18 :: s19 :: s20 :: s21 :: s22 :: s23 :: s24 :: s25 :: s26 :: s27 :: s28 :: s29 :: s30 :: s31 :: s32 :: s33 :: s34 :: s35 :: s36 :: s37 :: s38 :: s39 :: s40 :: s41 :: s42 :: s43 :: s44 :: s45 :: s46 :: s47 :: s48 :: s49 :: s50 :: s51 :: s52 :: s53 :: s54 :: s55 :: s56 :: s57 :: s58 :: s59 :: s60 :: s61 :: s62 :: s63 :: s64 :: s65 :: s66 :: s67 :: s68 :: s69 :: s70 :: s71 :: s72 :: (lvV Aa ca la : Value) :: (lvV Ab cb lb : Value) :: (.bool false : Value) :: (.bool false : Value) :: undef :: undef :: undef :: (.bool false : Value) :: (.bool false : Value) :: (lvV Aa ca la : Value) :: (lvV Ab cb lb : Value) :: (.bool false : Value) :: (.bool false : Value) :: undef :: undef :: undef :: (.bool false : Value) :: (.bool false : Value) :: (.bool false : Value) :: (lvV Ar cr lr : Value) :: (.bool true : Value) :: (.bool true : Value) :: (lvV Ar cr lr : Value) :: (.slice Av nv cv : Value) :: (.int .i64 (valB vs lr) : Value) :: (.int .i64 x : Value) :: (.bool false : Value) :: (.bool false : Value) :: (.bool false : Value) :: s102 :: s103 :: s104 :: s105 :: s106 :: s107 :: s108 :: s109 :: s110 :: s111 :: s112 :: s113 :: s114 :: s115 :: s116 :: s117 :: s118 :: s119 :: s120 :: s121 :: s122 :: s123 :: s124 :: s125 :: s126 :: s127 :: s128 :: s129 :: s130 :: s131 :: s132 :: ([] : List Value)).toArray := by
    have h := lit a.tmps 133 hs
    have e : ((List.range 133).map (fun i => a.tmps.getD i undef)).toArray = ((a.tmps.getD 0 undef : Value) :: (a.tmps.getD 1 undef : Value) :: (a.tmps.getD 2 undef : Value) :: (a.tmps.getD 3 undef : Value) :: (a.tmps.getD 4 undef : Value) :: (a.tmps.getD 5 undef : Value) :: (a.tmps.getD 6 undef : Value) :: (a.tmps.getD 7 undef : Value) :: (a.tmps.getD 8 undef : Value) :: (a.tmps.getD 9 undef : Value) :: (a.tmps.getD 10 undef : Value) :: (a.tmps.getD 11 undef : Value) :: (a.tmps.getD 12 undef : Value) :: (a.tmps.getD 13 undef : Value) :: (a.tmps.getD 14 undef : Value) :: (a.tmps.getD 15 undef : Value) :: (a.tmps.getD 16 undef : Value) :: (a.tmps.getD 17 undef : Value) :: (a.tmps.getD 18 undef : Value) :: (a.tmps.getD 19 undef : Value) :: (a.tmps.getD 20 undef : Value) :: (a.tmps.getD 21 undef : Value) :: (a.tmps.getD 22 undef : Value) :: (a.tmps.getD 23 undef : Value) :: (a.tmps.getD 24 undef : Value) :: (a.tmps.getD 25 undef : Value) :: (a.tmps.getD 26 undef : Value) :: (a.tmps.getD 27 undef : Value) :: (a.tmps.getD 28 undef : Value) :: (a.tmps.getD 29 undef : Value) :: (a.tmps.getD 30 undef : Value) :: (a.tmps.getD 31 undef : Value) :: (a.tmps.getD 32 undef : Value) :: (a.tmps.getD 33 undef : Value) :: (a.tmps.getD 34 undef : Value) :: (a.tmps.getD 35 undef : Value) :: (a.tmps.getD 36 undef : Value) :: (a.tmps.getD 37 undef : Value) :: (a.tmps.getD 38 undef : Value) :: (a.tmps.getD 39 undef : Value) :: (a.tmps.getD 40 undef : Value) :: (a.tmps.getD 41 undef : Value) :: (a.tmps.getD 42 undef : Value) :: (a.tmps.getD 43 undef : Value) :: (a.tmps.getD 44 undef : Value) :: (a.tmps.getD 45 undef : Value) :: (a.tmps.getD 46 undef : Value) :: (a.tmps.getD 47 undef : Value) :: (a.tmps.getD 48 undef : Value) :: (a.tmps.getD 49 undef : Value) :: (a.tmps.getD 50 undef : Value) :: (a.tmps.getD 51 undef : Value) :: (a.tmps.getD 52 undef : Value) :: (a.tmps.getD 53 undef : Value) :: (a.tmps.getD 54 undef : Value) :: (a.tmps.getD 55 undef : Value) :: (a.tmps.getD 56 undef : Value) :: (a.tmps.getD 57 undef : Value) :: (a.tmps.getD 58 undef : Value) :: (a.tmps.getD 59 undef : Value) :: (a.tmps.getD 60 undef : Value) :: (a.tmps.getD 61 undef : Value) :: (a.tmps.getD 62 undef : Value) :: (a.tmps.getD 63 undef : Value) :: (a.tmps.getD 64 undef : Value) :: (a.tmps.getD 65 undef : Value) :: (a.tmps.getD 66 undef : Value) :: (a.tmps.getD 67 undef : Value) :: (a.tmps.getD 68 undef : Value) :: (a.tmps.getD 69 undef : Value) :: (a.tmps.getD 70 undef : Value) :: (a.tmps.getD 71 undef : Value) :: (a.tmps.getD 72 undef : Value) :: (a.tmps.getD 73 undef : Value) :: (a.tmps.getD 74 undef : Value) :: (a.tmps.getD 75 undef : Value) :: (a.tmps.getD 76 undef : Value) :: (a.tmps.getD 77 undef : Value) :: (a.tmps.getD 78 undef : Value) :: (a.tmps.getD 79 undef : Value) :: (a.tmps.getD 80 undef : Value) :: (a.tmps.getD 81 undef : Value) :: (a.tmps.getD 82 undef : Value) :: (a.tmps.getD 83 undef : Value) :: (a.tmps.getD 84 undef : Value) :: (a.tmps.getD 85 undef : Value) :: (a.tmps.getD 86 undef : Value) :: (a.tmps.getD 87 undef : Value) :: (a.tmps.getD 88 undef : Value) :: (a.tmps.getD 89 undef : Value) :: (a.tmps.getD 90 undef : Value) :: (a.tmps.getD 91 undef : Value) :: (a.tmps.getD 92 undef : Value) :: (a.tmps.getD 93 undef : Value) :: (a.tmps.getD 94 undef : Value) :: (a.tmps.getD 95 undef : Value) :: (a.tmps.getD 96 undef : Value) :: (a.tmps.getD 97 undef : Value) :: (a.tmps.getD 98 undef : Value) :: (a.tmps.getD 99 undef : Value) :: (a.tmps.getD 100 undef : Value) :: (a.tmps.getD 101 undef : Value) :: (a.tmps.getD 102 undef : Value) :: (a.tmps.getD 103 undef : Value) :: (a.tmps.getD 104 undef : Value) :: (a.tmps.getD 105 undef : Value) :: (a.tmps.getD 106 undef : Value) :: (a.tmps.getD 107 undef : Value) :: (a.tmps.getD 108 undef : Value) :: (a.tmps.getD 109 undef : Value) :: (a.tmps.getD 110 undef : Value) :: (a.tmps.getD 111 undef : Value) :: (a.tmps.getD 112 undef : Value) :: (a.tmps.getD 113 undef : Value) :: (a.tmps.getD 114 undef : Value) :: (a.tmps.getD 115 undef : Value) :: (a.tmps.getD 116 undef : Value) :: (a.tmps.getD 117 undef : Value) :: (a.tmps.getD 118 undef : Value) :: (a.tmps.getD 119 undef : Value) :: (a.tmps.getD 120 undef : Value) :: (a.tmps.getD 121 undef : Value) :: (a.tmps.getD 122 undef : Value) :: (a.tmps.getD 123 undef : Value) :: (a.tmps.getD 124 undef : Value) :: (a.tmps.getD 125 undef : Value) :: (a.tmps.getD 126 undef : Value) :: (a.tmps.getD 127 undef : Value) :: (a.tmps.getD 128 undef : Value) :: (a.tmps.getD 129 undef : Value) :: (a.tmps.getD 130 undef : Value) :: (a.tmps.getD 131 undef : Value) :: (a.tmps.getD 132 undef : Value) :: ([] : List Value)).toArray := rfl
    rw [e, x0, x1, x2, x3, x4, x5, x6, x7, x8, x9, x10, x11, x12, x13, x14, x15, x16, x17, x18, x19, x20, x21, x22, x23, x24, x25, x26, x27, x28, x29, x30, x31, x32, x33, x34, x35, x36, x37, x38, x39, x40, x41, x42, x43, x44, x45, x46, x47, x48, x49, x50, x51, x52, x53, x54, x55, x56, x57, x58, x59, x60, x61, x62, x63, x64, x65, x66, x67, x68, x69, x70, x71, x72, x73, x74, x75, x76, x77, x78, x79, x80, x81, x82, x83, x84, x85, x86, x87, x88, x89, x90, x91, x92, x93, x94, x95, x96, x97, x98, x99, x100, x101, x102, x103, x104, x105, x106, x107, x108, x109, x110, x111, x112, x113, x114, x115, x116, x117, x118, x119, x120, x121, x122, x123, x124, x125, x126, x127, x128, x129, x130, x131, x132] at h
    exact h
  obtain ⟨tmps, defers⟩ := a
  obtain rfl : defers = [] := hd
  have hl' : tmps = _ := hl
  rw [hl']
  have hb' := est2_chg hb
  exact hend w' ⟨hb'.os, hb'.tape, hb'.output, hb'.size, hb'.block⟩

def ma000_F (w0 : World) (b p : Nat) (Aa Ab Ar Av : Option Addr) (ca cb cr nv cv : Nat) (la lb lr : Lv) (vs : List Int) (x y : Int) : Nat → (Nat → Value) → Value → World → (Nat → Prop) → Prop := fun rix => match rix with
  | 0 => fun _ v _ _ => v = lvV Aa ca la
  | 1 => fun _ v _ _ => v = lvV Ab cb lb
  | 2 => fun _ v _ _ => v = .bool false
  | 3 => fun _ v _ _ => v = .bool false
  | 4 => fun _ v _ _ => v = undef
  | 5 => fun _ v _ _ => v = undef
  | 6 => fun _ v _ _ => v = undef
  | 7 => fun _ v _ _ => v = .bool false
  | 8 => fun _ v _ _ => v = .bool false
  | 9 => fun _ v _ _ => v = lvV Aa ca la
  | 10 => fun _ v _ _ => v = lvV Ab cb lb
  | 11 => fun _ v _ _ => v = .bool false
  | 12 => fun _ v _ _ => v = .bool false
  | 13 => fun _ v _ _ => v = undef
  | 14 => fun _ v _ _ => v = undef
  | 15 => fun _ v _ _ => v = undef
  | 16 => fun _ v _ _ => v = .bool false
  | 17 => fun _ v _ _ => v = .bool false
  | 18 => fun _ v _ _ => v = .bool false
  | 19 => fun _ v _ _ => v = lvV Ar cr lr
  | 20 => fun _ v _ _ => v = .bool false
  | 21 => fun _ v _ _ => v = .bool false
  | 22 => fun _ v _ _ => v = undef
  | 23 => fun _ v _ _ => v = undef
  | 24 => fun _ v _ _ => v = undef
  | 25 => fun _ v _ _ => v = undef
  | 26 => fun _ v _ _ => v = undef
  | 27 => fun _ v _ _ => v = .bool false
  | 28 => fun _ v _ _ => v = .bool false
  | _ => fun _ _ _ _ => True
def ma000_C : Nat → List Nat := fun rix => match rix with
  | _ => []
theorem ma000_nw2 : nwB ma111_ops.toArray 2 = true := by kernel_rfl
theorem ma000_nw3 : nwB ma111_ops.toArray 3 = true := by kernel_rfl
theorem ma000_nw4 : nwB ma111_ops.toArray 4 = true := by kernel_rfl
theorem ma000_nw9 : nwB ma111_ops.toArray 9 = true := by kernel_rfl
theorem ma000_nw10 : nwB ma111_ops.toArray 10 = true := by kernel_rfl
theorem ma000_nw11 : nwB ma111_ops.toArray 11 = true := by kernel_rfl
set_option maxRecDepth 100000 in
set_option maxHeartbeats 8000000 in
theorem ma000_obs (w0 : World) (b p : Nat) (Aa Ab Ar Av : Option Addr) (ca cb cr nv cv : Nat) (la lb lr : Lv) (vs : List Int) (x y : Int) (hxa : w0.heap[b]? = some (.cells #[.int .i64 la.kind, .int .i64 la.num, .slice Aa la.kids.length ca] 24 (0, 0))) (hina : LvS w0 (fun k => k < w0.heap.size) Aa ca la) (hxb : w0.heap[b + 1]? = some (.cells #[.int .i64 lb.kind, .int .i64 lb.num, .slice Ab lb.kids.length cb] 24 (0, 0))) (hinb : LvS w0 (fun k => k < w0.heap.size) Ab cb lb) (hxr : w0.heap[p]? = some (.cells #[.int .i64 lr.kind, .int .i64 lr.num, .slice Ar lr.kids.length cr] 24 (0, 0))) (hinr : LvS w0 (fun k => k < w0.heap.size) Ar cr lr) (hv : ReadsInt w0 .i64 Av nv vs) (hlq : leqP la lb = false) (heq : eqP la lb = false) (hsr : soundB lr = false) (Q : Exit → Act → World → Prop) (a0 : Act) (hi2 : a0.tmps.getD 2 undef = .slice Av nv cv) (hi3 : a0.tmps.getD 3 undef = .pointer (some ⟨b, 0, none⟩)) (hi4 : a0.tmps.getD 4 undef = .pointer (some ⟨b + 1, 0, none⟩)) (hi9 : a0.tmps.getD 9 undef = .int .i64 x) (hi10 : a0.tmps.getD 10 undef = .int .i64 y) (hi11 : a0.tmps.getD 11 undef = .pointer (some ⟨p, 0, none⟩)) :
    ObsE Try.prog ma111_ops.toArray Q (est2 0 0 (fun _ => False) (fun _ => False)) ma000_C (ma000_F w0 b p Aa Ab Ar Av ca cb cr nv cv la lb lr vs x y) a0 w0 ma111_ops.toArray.toList 0 := by
  have nw2 := ma000_nw2
  have nw3 := ma000_nw3
  have nw4 := ma000_nw4
  have nw9 := ma000_nw9
  have nw10 := ma000_nw10
  have nw11 := ma000_nw11
  refine ⟨?_, ?_, ?_, ?_, ?_, ?_, ?_, ?_, ?_, ?_, ?_, ?_, ?_, ?_, ?_, ?_, ?_, ?_, ?_, ?_, ?_, ?_, ?_, ?_, ?_, ?_, ?_, ?_, ?_, trivial⟩
  · refine ⟨⟨fun τ => stableE_det _, leans_not⟩, ?_⟩
    intro a w O hk
    have e3 : a.eval (.tmp 3) = .pointer (some ⟨b, 0, none⟩) := (hk.init 3 (initialB_of_nw nw3)).trans hi3
    have x3 := hk.world.still hxa (fun ⟨_, h⟩ => h.elim And.right And.right)
    exact obE_loadRow rfl e3 x3 Try.underlying24 rfl (by kernel_rfl) (wanted_none rfl) rfl
  · refine ⟨⟨fun τ => stableE_det _, leans_not⟩, ?_⟩
    intro a w O hk
    have e4 : a.eval (.tmp 4) = .pointer (some ⟨b + 1, 0, none⟩) := (hk.init 4 (initialB_of_nw nw4)).trans hi4
    have x4 := hk.world.still hxb (fun ⟨_, h⟩ => h.elim And.right And.right)
    exact obE_loadRow rfl e4 x4 Try.underlying24 rfl (by kernel_rfl) (wanted_none rfl) rfl
  · refine ⟨⟨fun τ => stableE_det _, leans_not⟩, ?_⟩
    intro a w O hk
    have e73 : a.eval (.tmp 73) = lvV Aa ca la := hk.fact 0 _ 73 rfl rfl rfl rfl
    have e74 : a.eval (.tmp 74) = lvV Ab cb lb := hk.fact 1 _ 74 rfl rfl rfl rfl
    exact obE_lvLeq rfl (wanted_none rfl) (show LvV (fun k => k < w0.heap.size) la (a.eval (.tmp 73)) w (fun _ => False) by rw [e73]; exact LvV.old hina (fun k hk' => est2_fix hk' (fun h => h) (fun h => h)) hk.fix) (show LvV (fun k => k < w0.heap.size) lb (a.eval (.tmp 74)) w (fun _ => False) by rw [e74]; exact LvV.old hinb (fun k hk' => est2_fix hk' (fun h => h) (fun h => h)) hk.fix) hlq
  · refine ⟨⟨fun τ => stableE_det _, leans_not⟩, ?_⟩
    intro a w O hk
    have e75 : a.eval (.tmp 75) = .bool false := hk.fact 2 _ 75 rfl rfl rfl rfl
    exact toE (ob_move rfl e75 (wanted_none rfl) rfl)
  · refine ⟨⟨fun τ => stableE_det _, leans_not⟩, ?_⟩
    intro a w O hk
    have e9 : a.eval (.tmp 9) = .int .i64 x := (hk.init 9 (initialB_of_nw nw9)).trans hi9
    have e76 : a.eval (.tmp 76) = .bool false := hk.fact 3 _ 76 rfl rfl rfl rfl
    exact toE (ob_skip (unwanted_of rfl rfl rfl e76 (by decide)) rfl)
  · refine ⟨⟨fun τ => stableE_det _, leans_not⟩, ?_⟩
    intro a w O hk
    have e10 : a.eval (.tmp 10) = .int .i64 y := (hk.init 10 (initialB_of_nw nw10)).trans hi10
    have e76 : a.eval (.tmp 76) = .bool false := hk.fact 3 _ 76 rfl rfl rfl rfl
    exact toE (ob_skip (unwanted_of rfl rfl rfl e76 (by decide)) rfl)
  · refine ⟨⟨fun τ => stableE_det _, leans_not⟩, ?_⟩
    intro a w O hk
    have e77 : a.eval (.tmp 77) = undef := hk.fact 4 _ 77 rfl rfl rfl rfl
    have e78 : a.eval (.tmp 78) = undef := hk.fact 5 _ 78 rfl rfl rfl rfl
    have e76 : a.eval (.tmp 76) = .bool false := hk.fact 3 _ 76 rfl rfl rfl rfl
    exact toE (ob_skip (unwanted_of rfl rfl rfl e76 (by decide)) rfl)
  · refine ⟨⟨fun τ => stableE_det _, leans_not⟩, ?_⟩
    intro a w O hk
    have e76 : a.eval (.tmp 76) = .bool false := hk.fact 3 _ 76 rfl rfl rfl rfl
    have e79 : a.eval (.tmp 79) = undef := hk.fact 6 _ 79 rfl rfl rfl rfl
    exact toE (ob_pick rfl e76 rfl (wanted_none rfl) rfl)
  · refine ⟨⟨fun τ => stableE_det _, leans_not⟩, ?_⟩
    intro a w O hk
    have e80 : a.eval (.tmp 80) = .bool false := hk.fact 7 _ 80 rfl rfl rfl rfl
    exact toE (ob_move rfl e80 (wanted_none rfl) rfl)
  · refine ⟨⟨fun τ => stableE_det _, leans_not⟩, ?_⟩
    intro a w O hk
    have e3 : a.eval (.tmp 3) = .pointer (some ⟨b, 0, none⟩) := (hk.init 3 (initialB_of_nw nw3)).trans hi3
    have e81 : a.eval (.tmp 81) = .bool false := hk.fact 8 _ 81 rfl rfl rfl rfl
    have x3 := hk.world.still hxa (fun ⟨_, h⟩ => h.elim And.right And.right)
    exact obE_loadRow rfl e3 x3 Try.underlying24 rfl (by kernel_rfl) (wanted_of rfl rfl rfl e81) rfl
  · refine ⟨⟨fun τ => stableE_det _, leans_not⟩, ?_⟩
    intro a w O hk
    have e4 : a.eval (.tmp 4) = .pointer (some ⟨b + 1, 0, none⟩) := (hk.init 4 (initialB_of_nw nw4)).trans hi4
    have e81 : a.eval (.tmp 81) = .bool false := hk.fact 8 _ 81 rfl rfl rfl rfl
    have x4 := hk.world.still hxb (fun ⟨_, h⟩ => h.elim And.right And.right)
    exact obE_loadRow rfl e4 x4 Try.underlying24 rfl (by kernel_rfl) (wanted_of rfl rfl rfl e81) rfl
  · refine ⟨⟨fun τ => stableE_det _, leans_not⟩, ?_⟩
    intro a w O hk
    have e82 : a.eval (.tmp 82) = lvV Aa ca la := hk.fact 9 _ 82 rfl rfl rfl rfl
    have e83 : a.eval (.tmp 83) = lvV Ab cb lb := hk.fact 10 _ 83 rfl rfl rfl rfl
    have e81 : a.eval (.tmp 81) = .bool false := hk.fact 8 _ 81 rfl rfl rfl rfl
    exact obE_lvEqual rfl (wanted_of rfl rfl rfl e81) (show LvV (fun k => k < w0.heap.size) la (a.eval (.tmp 82)) w (fun _ => False) by rw [e82]; exact LvV.old hina (fun k hk' => est2_fix hk' (fun h => h) (fun h => h)) hk.fix) (show LvV (fun k => k < w0.heap.size) lb (a.eval (.tmp 83)) w (fun _ => False) by rw [e83]; exact LvV.old hinb (fun k hk' => est2_fix hk' (fun h => h) (fun h => h)) hk.fix) heq
  · refine ⟨⟨fun τ => stableE_det _, leans_not⟩, ?_⟩
    intro a w O hk
    have e84 : a.eval (.tmp 84) = .bool false := hk.fact 11 _ 84 rfl rfl rfl rfl
    have e81 : a.eval (.tmp 81) = .bool false := hk.fact 8 _ 81 rfl rfl rfl rfl
    exact toE (ob_move rfl e84 (wanted_of rfl rfl rfl e81) rfl)
  · refine ⟨⟨fun τ => stableE_det _, leans_not⟩, ?_⟩
    intro a w O hk
    have e9 : a.eval (.tmp 9) = .int .i64 x := (hk.init 9 (initialB_of_nw nw9)).trans hi9
    have e85 : a.eval (.tmp 85) = .bool false := hk.fact 12 _ 85 rfl rfl rfl rfl
    exact toE (ob_skip (unwanted_of rfl rfl rfl e85 (by decide)) rfl)
  · refine ⟨⟨fun τ => stableE_det _, leans_not⟩, ?_⟩
    intro a w O hk
    have e10 : a.eval (.tmp 10) = .int .i64 y := (hk.init 10 (initialB_of_nw nw10)).trans hi10
    have e85 : a.eval (.tmp 85) = .bool false := hk.fact 12 _ 85 rfl rfl rfl rfl
    exact toE (ob_skip (unwanted_of rfl rfl rfl e85 (by decide)) rfl)
  · refine ⟨⟨fun τ => stableE_det _, leans_not⟩, ?_⟩
    intro a w O hk
    have e86 : a.eval (.tmp 86) = undef := hk.fact 13 _ 86 rfl rfl rfl rfl
    have e87 : a.eval (.tmp 87) = undef := hk.fact 14 _ 87 rfl rfl rfl rfl
    have e85 : a.eval (.tmp 85) = .bool false := hk.fact 12 _ 85 rfl rfl rfl rfl
    exact toE (ob_skip (unwanted_of rfl rfl rfl e85 (by decide)) rfl)
  · refine ⟨⟨fun τ => stableE_det _, leans_not⟩, ?_⟩
    intro a w O hk
    have e85 : a.eval (.tmp 85) = .bool false := hk.fact 12 _ 85 rfl rfl rfl rfl
    have e88 : a.eval (.tmp 88) = undef := hk.fact 15 _ 88 rfl rfl rfl rfl
    have e81 : a.eval (.tmp 81) = .bool false := hk.fact 8 _ 81 rfl rfl rfl rfl
    exact toE (ob_pick rfl e85 rfl (wanted_of rfl rfl rfl e81) rfl)
  · refine ⟨⟨fun τ => stableE_det _, leans_not⟩, ?_⟩
    intro a w O hk
    have e81 : a.eval (.tmp 81) = .bool false := hk.fact 8 _ 81 rfl rfl rfl rfl
    have e89 : a.eval (.tmp 89) = .bool false := hk.fact 16 _ 89 rfl rfl rfl rfl
    exact toE (ob_pick rfl e81 e89 (wanted_none rfl) rfl)
  · refine ⟨⟨fun τ => stableE_det _, leans_not⟩, ?_⟩
    intro a w O hk
    have e90 : a.eval (.tmp 90) = .bool false := hk.fact 17 _ 90 rfl rfl rfl rfl
    exact toE (ob_move rfl e90 (wanted_none rfl) rfl)
  · refine ⟨⟨fun τ => stableE_det _, leans_not⟩, ?_⟩
    intro a w O hk
    have e11 : a.eval (.tmp 11) = .pointer (some ⟨p, 0, none⟩) := (hk.init 11 (initialB_of_nw nw11)).trans hi11
    have e91 : a.eval (.tmp 91) = .bool false := hk.fact 18 _ 91 rfl rfl rfl rfl
    have x11 := hk.world.still hxr (fun ⟨_, h⟩ => h.elim And.right And.right)
    exact obE_loadRow rfl e11 x11 Try.underlying24 rfl (by kernel_rfl) (wanted_of rfl rfl rfl e91) rfl
  · refine ⟨⟨fun τ => stableE_det _, leans_not⟩, ?_⟩
    intro a w O hk
    have e92 : a.eval (.tmp 92) = lvV Ar cr lr := hk.fact 19 _ 92 rfl rfl rfl rfl
    have e91 : a.eval (.tmp 91) = .bool false := hk.fact 18 _ 91 rfl rfl rfl rfl
    exact obE_callV #[lvV Ar cr lr] rfl rfl rfl rfl (by simp only [List.map_cons, List.map_nil]; rw [e92]) (wanted_of rfl rfl rfl e91) (by have h := refSound_calls Ar cr lr w (LvS.all (LvS.same hinr (fun k hk' _ => hk.fix k ((fun k hk' => est2_fix hk' (fun h => h) (fun h => h)) k hk')))); rwa [hsr] at h)
  · refine ⟨⟨fun τ => stableE_det _, leans_not⟩, ?_⟩
    intro a w O hk
    have e93 : a.eval (.tmp 93) = .bool false := hk.fact 20 _ 93 rfl rfl rfl rfl
    have e91 : a.eval (.tmp 91) = .bool false := hk.fact 18 _ 91 rfl rfl rfl rfl
    exact toE (ob_move rfl e93 (wanted_of rfl rfl rfl e91) rfl)
  · refine ⟨⟨fun τ => stableE_det _, leans_not⟩, ?_⟩
    intro a w O hk
    have e11 : a.eval (.tmp 11) = .pointer (some ⟨p, 0, none⟩) := (hk.init 11 (initialB_of_nw nw11)).trans hi11
    have e94 : a.eval (.tmp 94) = .bool false := hk.fact 21 _ 94 rfl rfl rfl rfl
    exact toE (ob_skip (unwanted_of rfl rfl rfl e94 (by decide)) rfl)
  · refine ⟨⟨fun τ => stableE_det _, leans_not⟩, ?_⟩
    intro a w O hk
    have e2 : a.eval (.tmp 2) = .slice Av nv cv := (hk.init 2 (initialB_of_nw nw2)).trans hi2
    have e94 : a.eval (.tmp 94) = .bool false := hk.fact 21 _ 94 rfl rfl rfl rfl
    exact toE (ob_skip (unwanted_of rfl rfl rfl e94 (by decide)) rfl)
  · refine ⟨⟨fun τ => stableE_det _, leans_not⟩, ?_⟩
    intro a w O hk
    have e95 : a.eval (.tmp 95) = undef := hk.fact 22 _ 95 rfl rfl rfl rfl
    have e96 : a.eval (.tmp 96) = undef := hk.fact 23 _ 96 rfl rfl rfl rfl
    have e94 : a.eval (.tmp 94) = .bool false := hk.fact 21 _ 94 rfl rfl rfl rfl
    exact toE (ob_skip (unwanted_of rfl rfl rfl e94 (by decide)) rfl)
  · refine ⟨⟨fun τ => stableE_det _, leans_not⟩, ?_⟩
    intro a w O hk
    have e9 : a.eval (.tmp 9) = .int .i64 x := (hk.init 9 (initialB_of_nw nw9)).trans hi9
    have e94 : a.eval (.tmp 94) = .bool false := hk.fact 21 _ 94 rfl rfl rfl rfl
    exact toE (ob_skip (unwanted_of rfl rfl rfl e94 (by decide)) rfl)
  · refine ⟨⟨fun τ => stableE_det _, leans_not⟩, ?_⟩
    intro a w O hk
    have e97 : a.eval (.tmp 97) = undef := hk.fact 24 _ 97 rfl rfl rfl rfl
    have e98 : a.eval (.tmp 98) = undef := hk.fact 25 _ 98 rfl rfl rfl rfl
    have e94 : a.eval (.tmp 94) = .bool false := hk.fact 21 _ 94 rfl rfl rfl rfl
    exact toE (ob_skip (unwanted_of rfl rfl rfl e94 (by decide)) rfl)
  · refine ⟨⟨fun τ => stableE_det _, leans_not⟩, ?_⟩
    intro a w O hk
    have e94 : a.eval (.tmp 94) = .bool false := hk.fact 21 _ 94 rfl rfl rfl rfl
    have e99 : a.eval (.tmp 99) = undef := hk.fact 26 _ 99 rfl rfl rfl rfl
    have e91 : a.eval (.tmp 91) = .bool false := hk.fact 18 _ 91 rfl rfl rfl rfl
    exact toE (ob_pick rfl e94 rfl (wanted_of rfl rfl rfl e91) rfl)
  · refine ⟨⟨fun τ => stableE_det _, leans_not⟩, ?_⟩
    intro a w O hk
    have e91 : a.eval (.tmp 91) = .bool false := hk.fact 18 _ 91 rfl rfl rfl rfl
    have e100 : a.eval (.tmp 100) = .bool false := hk.fact 27 _ 100 rfl rfl rfl rfl
    exact toE (ob_pick rfl e91 e100 (wanted_none rfl) rfl)
set_option maxRecDepth 100000 in
set_option maxHeartbeats 8000000 in
theorem ma000_region {Q : Exit → Act → World → Prop} {id : Nat} (w0 : World) (b p : Nat) (Aa Ab Ar Av : Option Addr) (ca cb cr nv cv : Nat) (la lb lr : Lv) (vs : List Int) (x y : Int) {s0 s1 s5 s6 s7 s8 s12 s13 s14 s15 s16 s17 s18 s19 s20 s21 s22 s23 s24 s25 s26 s27 s28 s29 s30 s31 s32 s33 s34 s35 s36 s37 s38 s39 s40 s41 s42 s43 s44 s45 s46 s47 s48 s49 s50 s51 s52 s53 s54 s55 s56 s57 s58 s59 s60 s61 s62 s63 s64 s65 s66 s67 s68 s69 s70 s71 s72 s73 s74 s75 s76 s77 s78 s79 s80 s81 s82 s83 s84 s85 s86 s87 s88 s89 s90 s91 s92 s93 s94 s95 s96 s97 s98 s99 s100 s101 s102 s103 s104 s105 s106 s107 s108 s109 s110 s111 s112 s113 s114 s115 s116 s117 s118 s119 s120 s121 s122 s123 s124 s125 s126 s127 s128 s129 s130 s131 s132 : Value} (hxa : w0.heap[b]? = some (.cells #[.int .i64 la.kind, .int .i64 la.num, .slice Aa la.kids.length ca] 24 (0, 0))) (hina : LvS w0 (fun k => k < w0.heap.size) Aa ca la) (hxb : w0.heap[b + 1]? = some (.cells #[.int .i64 lb.kind, .int .i64 lb.num, .slice Ab lb.kids.length cb] 24 (0, 0))) (hinb : LvS w0 (fun k => k < w0.heap.size) Ab cb lb) (hxr : w0.heap[p]? = some (.cells #[.int .i64 lr.kind, .int .i64 lr.num, .slice Ar lr.kids.length cr] 24 (0, 0))) (hinr : LvS w0 (fun k => k < w0.heap.size) Ar cr lr) (hv : ReadsInt w0 .i64 Av nv vs) (hlq : leqP la lb = false) (heq : eqP la lb = false) (hsr : soundB lr = false)
    (hend : ∀ (w' : World), Chg (fun k => False ∨ False) w0 w' → Q .normal { tmps := (s0 :: s1 :: (.slice Av nv cv : Value) :: (.pointer (some ⟨b, 0, none⟩) : Value) :: (.pointer (some ⟨b + 1, 0, none⟩) : Value) :: s5 :: s6 :: s7 :: s8 :: (.int .i64 x : Value) :: (.int .i64 y : Value) :: (.pointer (some ⟨p, 0, none⟩) : Value) :: s12 :: s13 :: s14 :: s15 :: s16 :: s17 :: s18 :: s19 :: s20 :: s21 :: s22 :: s23 :: s24 :: s25 :: s26 :: s27 :: s28 :: s29 :: s30 :: s31 :: s32 :: s33 :: s34 :: s35 :: s36 :: s37 :: s38 :: s39 :: s40 :: s41 :: s42 :: s43 :: s44 :: s45 :: s46 :: s47 :: s48 :: s49 :: s50 :: s51 :: s52 :: s53 :: s54 :: s55 :: s56 :: s57 :: s58 :: s59 :: s60 :: s61 :: s62 :: s63 :: s64 :: s65 :: s66 :: s67 :: s68 :: s69 :: s70 :: s71 :: s72 :: (lvV Aa ca la : Value) :: (lvV Ab cb lb : Value) :: (.bool false : Value) :: (.bool false : Value) :: undef :: undef :: undef :: (.bool false : Value) :: (.bool false : Value) :: (lvV Aa ca la : Value) :: (lvV Ab cb lb : Value) :: (.bool false : Value) :: (.bool false : Value) :: undef :: undef :: undef :: (.bool false : Value) :: (.bool false : Value) :: (.bool false : Value) :: (lvV Ar cr lr : Value) :: (.bool false : Value) :: (.bool false : Value) :: undef :: undef :: undef :: undef :: undef :: (.bool false : Value) :: (.bool false : Value) :: s102 :: s103 :: s104 :: s105 :: s106 :: s107 :: s108 :: s109 :: s110 :: s111 :: s112 :: s113 :: s114 :: s115 :: s116 :: s117 :: s118 :: s119 :: s120 :: s121 :: s122 :: s123 :: s124 :: s125 :: s126 :: s127 :: s128 :: s129 :: s130 :: s131 :: s132 :: ([] : List Value)).toArray, defers := [] } w') :
    (Code.region id ma111_ops.toArray false).wp Try.prog Q { tmps := (s0 :: s1 :: (.slice Av nv cv : Value) :: (.pointer (some ⟨b, 0, none⟩) : Value) :: (.pointer (some ⟨b + 1, 0, none⟩) : Value) :: s5 :: s6 :: s7 :: s8 :: (.int .i64 x : Value) :: (.int .i64 y : Value) :: (.pointer (some ⟨p, 0, none⟩) : Value) :: s12 :: s13 :: s14 :: s15 :: s16 :: s17 :: s18 :: s19 :: s20 :: s21 :: s22 :: s23 :: s24 :: s25 :: s26 :: s27 :: s28 :: s29 :: s30 :: s31 :: s32 :: s33 :: s34 :: s35 :: s36 :: s37 :: s38 :: s39 :: s40 :: s41 :: s42 :: s43 :: s44 :: s45 :: s46 :: s47 :: s48 :: s49 :: s50 :: s51 :: s52 :: s53 :: s54 :: s55 :: s56 :: s57 :: s58 :: s59 :: s60 :: s61 :: s62 :: s63 :: s64 :: s65 :: s66 :: s67 :: s68 :: s69 :: s70 :: s71 :: s72 :: s73 :: s74 :: s75 :: s76 :: s77 :: s78 :: s79 :: s80 :: s81 :: s82 :: s83 :: s84 :: s85 :: s86 :: s87 :: s88 :: s89 :: s90 :: s91 :: s92 :: s93 :: s94 :: s95 :: s96 :: s97 :: s98 :: s99 :: s100 :: s101 :: s102 :: s103 :: s104 :: s105 :: s106 :: s107 :: s108 :: s109 :: s110 :: s111 :: s112 :: s113 :: s114 :: s115 :: s116 :: s117 :: s118 :: s119 :: s120 :: s121 :: s122 :: s123 :: s124 :: s125 :: s126 :: s127 :: s128 :: s129 :: s130 :: s131 :: s132 :: ([] : List Value)).toArray, defers := [] } w0 := by
  refine wp_region_est0 (est2 0 0 (fun _ => False) (fun _ => False)) ma000_C (ma000_F w0 b p Aa Ab Ar Av ca cb cr nv cv la lb lr vs x y) (est2_dis (fun _ h _ => h)) (est2_range (fun _ h => h.elim) (fun _ h => h.elim)) (by rfl) (by kernel_rfl) (ma000_obs w0 b p Aa Ab Ar Av ca cb cr nv cv la lb lr vs x y hxa hina hxb hinb hxr hinr hv hlq heq hsr _ _ rfl rfl rfl rfl rfl rfl) ?_
  intro a w' O hd hs hb hf hf2 ha hsame
  have hx : ∀ (qi : Nat) (qv : Value), nwB ma111_ops.toArray qi = true → (s0 :: s1 :: (.slice Av nv cv : Value) :: (.pointer (some ⟨b, 0, none⟩) : Value) :: (.pointer (some ⟨b + 1, 0, none⟩) : Value) :: s5 :: s6 :: s7 :: s8 :: (.int .i64 x : Value) :: (.int .i64 y : Value) :: (.pointer (some ⟨p, 0, none⟩) : Value) :: s12 :: s13 :: s14 :: s15 :: s16 :: s17 :: s18 :: s19 :: s20 :: s21 :: s22 :: s23 :: s24 :: s25 :: s26 :: s27 :: s28 :: s29 :: s30 :: s31 :: s32 :: s33 :: s34 :: s35 :: s36 :: s37 :: s38 :: s39 :: s40 :: s41 :: s42 :: s43 :: s44 :: s45 :: s46 :: s47 :: s48 :: s49 :: s50 :: s51 :: s52 :: s53 :: s54 :: s55 :: s56 :: s57 :: s58 :: s59 :: s60 :: s61 :: s62 :: s63 :: s64 :: s65 :: s66 :: s67 :: s68 :: s69 :: s70 :: s71 :: s72 :: s73 :: s74 :: s75 :: s76 :: s77 :: s78 :: s79 :: s80 :: s81 :: s82 :: s83 :: s84 :: s85 :: s86 :: s87 :: s88 :: s89 :: s90 :: s91 :: s92 :: s93 :: s94 :: s95 :: s96 :: s97 :: s98 :: s99 :: s100 :: s101 :: s102 :: s103 :: s104 :: s105 :: s106 :: s107 :: s108 :: s109 :: s110 :: s111 :: s112 :: s113 :: s114 :: s115 :: s116 :: s117 :: s118 :: s119 :: s120 :: s121 :: s122 :: s123 :: s124 :: s125 :: s126 :: s127 :: s128 :: s129 :: s130 :: s131 :: s132 :: ([] : List Value)).toArray.getD qi undef = qv → a.tmps.getD qi undef = qv := fun qi qv h e => (hsame qi (nwB.spec h)).trans e
  have x0 := hx 0 s0 (by kernel_rfl) rfl
  have x1 := hx 1 s1 (by kernel_rfl) rfl
  have x2 := hx 2 (.slice Av nv cv) (by kernel_rfl) rfl
  have x3 := hx 3 (.pointer (some ⟨b, 0, none⟩)) (by kernel_rfl) rfl
  have x4 := hx 4 (.pointer (some ⟨b + 1, 0, none⟩)) (by kernel_rfl) rfl
  have x5 := hx 5 s5 (by kernel_rfl) rfl
  have x6 := hx 6 s6 (by kernel_rfl) rfl
  have x7 := hx 7 s7 (by kernel_rfl) rfl
  have x8 := hx 8 s8 (by kernel_rfl) rfl
  have x9 := hx 9 (.int .i64 x) (by kernel_rfl) rfl
  have x10 := hx 10 (.int .i64 y) (by kernel_rfl) rfl
  have x11 := hx 11 (.pointer (some ⟨p, 0, none⟩)) (by kernel_rfl) rfl
  have x12 := hx 12 s12 (by kernel_rfl) rfl
  have x13 := hx 13 s13 (by kernel_rfl) rfl
  have x14 := hx 14 s14 (by kernel_rfl) rfl
  have x15 := hx 15 s15 (by kernel_rfl) rfl
  have x16 := hx 16 s16 (by kernel_rfl) rfl
  have x17 := hx 17 s17 (by kernel_rfl) rfl
  have x18 := hx 18 s18 (by kernel_rfl) rfl
  have x19 := hx 19 s19 (by kernel_rfl) rfl
  have x20 := hx 20 s20 (by kernel_rfl) rfl
  have x21 := hx 21 s21 (by kernel_rfl) rfl
  have x22 := hx 22 s22 (by kernel_rfl) rfl
  have x23 := hx 23 s23 (by kernel_rfl) rfl
  have x24 := hx 24 s24 (by kernel_rfl) rfl
  have x25 := hx 25 s25 (by kernel_rfl) rfl
  have x26 := hx 26 s26 (by kernel_rfl) rfl
  have x27 := hx 27 s27 (by kernel_rfl) rfl
  have x28 := hx 28 s28 (by kernel_rfl) rfl
  have x29 := hx 29 s29 (by kernel_rfl) rfl
  have x30 := hx 30 s30 (by kernel_rfl) rfl
  have x31 := hx 31 s31 (by kernel_rfl) rfl
  have x32 := hx 32 s32 (by kernel_rfl) rfl
  have x33 := hx 33 s33 (by kernel_rfl) rfl
  have x34 := hx 34 s34 (by kernel_rfl) rfl
  have x35 := hx 35 s35 (by kernel_rfl) rfl
  have x36 := hx 36 s36 (by kernel_rfl) rfl
  have x37 := hx 37 s37 (by kernel_rfl) rfl
  have x38 := hx 38 s38 (by kernel_rfl) rfl
  have x39 := hx 39 s39 (by kernel_rfl) rfl
  have x40 := hx 40 s40 (by kernel_rfl) rfl
  have x41 := hx 41 s41 (by kernel_rfl) rfl
  have x42 := hx 42 s42 (by kernel_rfl) rfl
  have x43 := hx 43 s43 (by kernel_rfl) rfl
  have x44 := hx 44 s44 (by kernel_rfl) rfl
  have x45 := hx 45 s45 (by kernel_rfl) rfl
  have x46 := hx 46 s46 (by kernel_rfl) rfl
  have x47 := hx 47 s47 (by kernel_rfl) rfl
  have x48 := hx 48 s48 (by kernel_rfl) rfl
  have x49 := hx 49 s49 (by kernel_rfl) rfl
  have x50 := hx 50 s50 (by kernel_rfl) rfl
  have x51 := hx 51 s51 (by kernel_rfl) rfl
  have x52 := hx 52 s52 (by kernel_rfl) rfl
  have x53 := hx 53 s53 (by kernel_rfl) rfl
  have x54 := hx 54 s54 (by kernel_rfl) rfl
  have x55 := hx 55 s55 (by kernel_rfl) rfl
  have x56 := hx 56 s56 (by kernel_rfl) rfl
  have x57 := hx 57 s57 (by kernel_rfl) rfl
  have x58 := hx 58 s58 (by kernel_rfl) rfl
  have x59 := hx 59 s59 (by kernel_rfl) rfl
  have x60 := hx 60 s60 (by kernel_rfl) rfl
  have x61 := hx 61 s61 (by kernel_rfl) rfl
  have x62 := hx 62 s62 (by kernel_rfl) rfl
  have x63 := hx 63 s63 (by kernel_rfl) rfl
  have x64 := hx 64 s64 (by kernel_rfl) rfl
  have x65 := hx 65 s65 (by kernel_rfl) rfl
  have x66 := hx 66 s66 (by kernel_rfl) rfl
  have x67 := hx 67 s67 (by kernel_rfl) rfl
  have x68 := hx 68 s68 (by kernel_rfl) rfl
  have x69 := hx 69 s69 (by kernel_rfl) rfl
  have x70 := hx 70 s70 (by kernel_rfl) rfl
  have x71 := hx 71 s71 (by kernel_rfl) rfl
  have x72 := hx 72 s72 (by kernel_rfl) rfl
  have x73 : a.tmps.getD 73 undef = lvV Aa ca la := (hf 0 _ 73 rfl rfl (by decide)).1
  have x74 : a.tmps.getD 74 undef = lvV Ab cb lb := (hf 1 _ 74 rfl rfl (by decide)).1
  have x75 : a.tmps.getD 75 undef = .bool false := (hf 2 _ 75 rfl rfl (by decide)).1
  have x76 : a.tmps.getD 76 undef = .bool false := (hf 3 _ 76 rfl rfl (by decide)).1
  have x77 : a.tmps.getD 77 undef = undef := (hf 4 _ 77 rfl rfl (by decide)).1
  have x78 : a.tmps.getD 78 undef = undef := (hf 5 _ 78 rfl rfl (by decide)).1
  have x79 : a.tmps.getD 79 undef = undef := (hf 6 _ 79 rfl rfl (by decide)).1
  have x80 : a.tmps.getD 80 undef = .bool false := (hf 7 _ 80 rfl rfl (by decide)).1
  have x81 : a.tmps.getD 81 undef = .bool false := (hf 8 _ 81 rfl rfl (by decide)).1
  have x82 : a.tmps.getD 82 undef = lvV Aa ca la := (hf 9 _ 82 rfl rfl (by decide)).1
  have x83 : a.tmps.getD 83 undef = lvV Ab cb lb := (hf 10 _ 83 rfl rfl (by decide)).1
  have x84 : a.tmps.getD 84 undef = .bool false := (hf 11 _ 84 rfl rfl (by decide)).1
  have x85 : a.tmps.getD 85 undef = .bool false := (hf 12 _ 85 rfl rfl (by decide)).1
  have x86 : a.tmps.getD 86 undef = undef := (hf 13 _ 86 rfl rfl (by decide)).1
  have x87 : a.tmps.getD 87 undef = undef := (hf 14 _ 87 rfl rfl (by decide)).1
  have x88 : a.tmps.getD 88 undef = undef := (hf 15 _ 88 rfl rfl (by decide)).1
  have x89 : a.tmps.getD 89 undef = .bool false := (hf 16 _ 89 rfl rfl (by decide)).1
  have x90 : a.tmps.getD 90 undef = .bool false := (hf 17 _ 90 rfl rfl (by decide)).1
  have x91 : a.tmps.getD 91 undef = .bool false := (hf 18 _ 91 rfl rfl (by decide)).1
  have x92 : a.tmps.getD 92 undef = lvV Ar cr lr := (hf 19 _ 92 rfl rfl (by decide)).1
  have x93 : a.tmps.getD 93 undef = .bool false := (hf 20 _ 93 rfl rfl (by decide)).1
  have x94 : a.tmps.getD 94 undef = .bool false := (hf 21 _ 94 rfl rfl (by decide)).1
  have x95 : a.tmps.getD 95 undef = undef := (hf 22 _ 95 rfl rfl (by decide)).1
  have x96 : a.tmps.getD 96 undef = undef := (hf 23 _ 96 rfl rfl (by decide)).1
  have x97 : a.tmps.getD 97 undef = undef := (hf 24 _ 97 rfl rfl (by decide)).1
  have x98 : a.tmps.getD 98 undef = undef := (hf 25 _ 98 rfl rfl (by decide)).1
  have x99 : a.tmps.getD 99 undef = undef := (hf 26 _ 99 rfl rfl (by decide)).1
  have x100 : a.tmps.getD 100 undef = .bool false := (hf 27 _ 100 rfl rfl (by decide)).1
  have x101 : a.tmps.getD 101 undef = .bool false := (hf 28 _ 101 rfl rfl (by decide)).1
  have x102 := hx 102 s102 (by kernel_rfl) rfl
  have x103 := hx 103 s103 (by kernel_rfl) rfl
  have x104 := hx 104 s104 (by kernel_rfl) rfl
  have x105 := hx 105 s105 (by kernel_rfl) rfl
  have x106 := hx 106 s106 (by kernel_rfl) rfl
  have x107 := hx 107 s107 (by kernel_rfl) rfl
  have x108 := hx 108 s108 (by kernel_rfl) rfl
  have x109 := hx 109 s109 (by kernel_rfl) rfl
  have x110 := hx 110 s110 (by kernel_rfl) rfl
  have x111 := hx 111 s111 (by kernel_rfl) rfl
  have x112 := hx 112 s112 (by kernel_rfl) rfl
  have x113 := hx 113 s113 (by kernel_rfl) rfl
  have x114 := hx 114 s114 (by kernel_rfl) rfl
  have x115 := hx 115 s115 (by kernel_rfl) rfl
  have x116 := hx 116 s116 (by kernel_rfl) rfl
  have x117 := hx 117 s117 (by kernel_rfl) rfl
  have x118 := hx 118 s118 (by kernel_rfl) rfl
  have x119 := hx 119 s119 (by kernel_rfl) rfl
  have x120 := hx 120 s120 (by kernel_rfl) rfl
  have x121 := hx 121 s121 (by kernel_rfl) rfl
  have x122 := hx 122 s122 (by kernel_rfl) rfl
  have x123 := hx 123 s123 (by kernel_rfl) rfl
  have x124 := hx 124 s124 (by kernel_rfl) rfl
  have x125 := hx 125 s125 (by kernel_rfl) rfl
  have x126 := hx 126 s126 (by kernel_rfl) rfl
  have x127 := hx 127 s127 (by kernel_rfl) rfl
  have x128 := hx 128 s128 (by kernel_rfl) rfl
  have x129 := hx 129 s129 (by kernel_rfl) rfl
  have x130 := hx 130 s130 (by kernel_rfl) rfl
  have x131 := hx 131 s131 (by kernel_rfl) rfl
  have x132 := hx 132 s132 (by kernel_rfl) rfl
  have hl : a.tmps = (s0 :: s1 :: (.slice Av nv cv : Value) :: (.pointer (some ⟨b, 0, none⟩) : Value) :: (.pointer (some ⟨b + 1, 0, none⟩) : Value) :: s5 :: s6 :: s7 :: s8 :: (.int .i64 x : Value) :: (.int .i64 y : Value) :: (.pointer (some ⟨p, 0, none⟩) : Value) :: s12 :: s13 :: s14 :: s15 :: s16 :: s17 :: s18 :: s19 :: s20 :: s21 :: s22 :: s23 :: s24 :: s25 :: s26 :: s27 :: s28 :: s29 :: s30 :: s31 :: s32 :: s33 :: s34 :: s35 :: s36 :: s37 :: s38 :: s39 :: s40 :: s41 :: s42 :: s43 :: s44 :: s45 :: s46 :: s47 :: s48 :: s49 :: s50 :: s51 :: s52 :: s53 :: s54 :: s55 :: s56 :: s57 :: s58 :: s59 :: s60 :: s61 :: s62 :: s63 :: s64 :: s65 :: s66 :: s67 :: s68 :: s69 :: s70 :: s71 :: s72 :: (lvV Aa ca la : Value) :: (lvV Ab cb lb : Value) :: (.bool false : Value) :: (.bool false : Value) :: undef :: undef :: undef :: (.bool false : Value) :: (.bool false : Value) :: (lvV Aa ca la : Value) :: (lvV Ab cb lb : Value) :: (.bool false : Value) :: (.bool false : Value) :: undef :: undef :: undef :: (.bool false : Value) :: (.bool false : Value) :: (.bool false : Value) :: (lvV Ar cr lr : Value) :: (.bool false : Value) :: (.bool false : Value) :: undef :: undef :: undef :: undef :: undef :: (.bool false : Value) :: (.bool false : Value) :: s102 :: s103 :: s104 :: s105 :: s106 :: s107 :: s108 :: s109 :: s110 :: s111 :: s112 :: s113 :: s114 :: s115 :: s116 :: s117 :: s118 :: s119 :: s120 :: s121 :: s122 :: s123 :: s124 :: s125 :: s126 :: s127 :: s128 :: s129 :: s130 :: s131 :: s132 :: ([] : List Value)).toArray := by
    have h := lit a.tmps 133 hs
    have e : ((List.range 133).map (fun i => a.tmps.getD i undef)).toArray = ((a.tmps.getD 0 undef : Value) :: (a.tmps.getD 1 undef : Value) :: (a.tmps.getD 2 undef : Value) :: (a.tmps.getD 3 undef : Value) :: (a.tmps.getD 4 undef : Value) :: (a.tmps.getD 5 undef : Value) :: (a.tmps.getD 6 undef : Value) :: (a.tmps.getD 7 undef : Value) :: (a.tmps.getD 8 undef : Value) :: (a.tmps.getD 9 undef : Value) :: (a.tmps.getD 10 undef : Value) :: (a.tmps.getD 11 undef : Value) :: (a.tmps.getD 12 undef : Value) :: (a.tmps.getD 13 undef : Value) :: (a.tmps.getD 14 undef : Value) :: (a.tmps.getD 15 undef : Value) :: (a.tmps.getD 16 undef : Value) :: (a.tmps.getD 17 undef : Value) :: (a.tmps.getD 18 undef : Value) :: (a.tmps.getD 19 undef : Value) :: (a.tmps.getD 20 undef : Value) :: (a.tmps.getD 21 undef : Value) :: (a.tmps.getD 22 undef : Value) :: (a.tmps.getD 23 undef : Value) :: (a.tmps.getD 24 undef : Value) :: (a.tmps.getD 25 undef : Value) :: (a.tmps.getD 26 undef : Value) :: (a.tmps.getD 27 undef : Value) :: (a.tmps.getD 28 undef : Value) :: (a.tmps.getD 29 undef : Value) :: (a.tmps.getD 30 undef : Value) :: (a.tmps.getD 31 undef : Value) :: (a.tmps.getD 32 undef : Value) :: (a.tmps.getD 33 undef : Value) :: (a.tmps.getD 34 undef : Value) :: (a.tmps.getD 35 undef : Value) :: (a.tmps.getD 36 undef : Value) :: (a.tmps.getD 37 undef : Value) :: (a.tmps.getD 38 undef : Value) :: (a.tmps.getD 39 undef : Value) :: (a.tmps.getD 40 undef : Value) :: (a.tmps.getD 41 undef : Value) :: (a.tmps.getD 42 undef : Value) :: (a.tmps.getD 43 undef : Value) :: (a.tmps.getD 44 undef : Value) :: (a.tmps.getD 45 undef : Value) :: (a.tmps.getD 46 undef : Value) :: (a.tmps.getD 47 undef : Value) :: (a.tmps.getD 48 undef : Value) :: (a.tmps.getD 49 undef : Value) :: (a.tmps.getD 50 undef : Value) :: (a.tmps.getD 51 undef : Value) :: (a.tmps.getD 52 undef : Value) :: (a.tmps.getD 53 undef : Value) :: (a.tmps.getD 54 undef : Value) :: (a.tmps.getD 55 undef : Value) :: (a.tmps.getD 56 undef : Value) :: (a.tmps.getD 57 undef : Value) :: (a.tmps.getD 58 undef : Value) :: (a.tmps.getD 59 undef : Value) :: (a.tmps.getD 60 undef : Value) :: (a.tmps.getD 61 undef : Value) :: (a.tmps.getD 62 undef : Value) :: (a.tmps.getD 63 undef : Value) :: (a.tmps.getD 64 undef : Value) :: (a.tmps.getD 65 undef : Value) :: (a.tmps.getD 66 undef : Value) :: (a.tmps.getD 67 undef : Value) :: (a.tmps.getD 68 undef : Value) :: (a.tmps.getD 69 undef : Value) :: (a.tmps.getD 70 undef : Value) :: (a.tmps.getD 71 undef : Value) :: (a.tmps.getD 72 undef : Value) :: (a.tmps.getD 73 undef : Value) :: (a.tmps.getD 74 undef : Value) :: (a.tmps.getD 75 undef : Value) :: (a.tmps.getD 76 undef : Value) :: (a.tmps.getD 77 undef : Value) :: (a.tmps.getD 78 undef : Value) :: (a.tmps.getD 79 undef : Value) :: (a.tmps.getD 80 undef : Value) :: (a.tmps.getD 81 undef : Value) :: (a.tmps.getD 82 undef : Value) :: (a.tmps.getD 83 undef : Value) :: (a.tmps.getD 84 undef : Value) :: (a.tmps.getD 85 undef : Value) :: (a.tmps.getD 86 undef : Value) :: (a.tmps.getD 87 undef : Value) :: (a.tmps.getD 88 undef : Value) :: (a.tmps.getD 89 undef : Value) :: (a.tmps.getD 90 undef : Value) :: (a.tmps.getD 91 undef : Value) :: (a.tmps.getD 92 undef : Value) :: (a.tmps.getD 93 undef : Value) :: (a.tmps.getD 94 undef : Value) :: (a.tmps.getD 95 undef : Value) :: (a.tmps.getD 96 undef : Value) :: (a.tmps.getD 97 undef : Value) :: (a.tmps.getD 98 undef : Value) :: (a.tmps.getD 99 undef : Value) :: (a.tmps.getD 100 undef : Value) :: (a.tmps.getD 101 undef : Value) :: (a.tmps.getD 102 undef : Value) :: (a.tmps.getD 103 undef : Value) :: (a.tmps.getD 104 undef : Value) :: (a.tmps.getD 105 undef : Value) :: (a.tmps.getD 106 undef : Value) :: (a.tmps.getD 107 undef : Value) :: (a.tmps.getD 108 undef : Value) :: (a.tmps.getD 109 undef : Value) :: (a.tmps.getD 110 undef : Value) :: (a.tmps.getD 111 undef : Value) :: (a.tmps.getD 112 undef : Value) :: (a.tmps.getD 113 undef : Value) :: (a.tmps.getD 114 undef : Value) :: (a.tmps.getD 115 undef : Value) :: (a.tmps.getD 116 undef : Value) :: (a.tmps.getD 117 undef : Value) :: (a.tmps.getD 118 undef : Value) :: (a.tmps.getD 119 undef : Value) :: (a.tmps.getD 120 undef : Value) :: (a.tmps.getD 121 undef : Value) :: (a.tmps.getD 122 undef : Value) :: (a.tmps.getD 123 undef : Value) :: (a.tmps.getD 124 undef : Value) :: (a.tmps.getD 125 undef : Value) :: (a.tmps.getD 126 undef : Value) :: (a.tmps.getD 127 undef : Value) :: (a.tmps.getD 128 undef : Value) :: (a.tmps.getD 129 undef : Value) :: (a.tmps.getD 130 undef : Value) :: (a.tmps.getD 131 undef : Value) :: (a.tmps.getD 132 undef : Value) :: ([] : List Value)).toArray := rfl
    rw [e, x0, x1, x2, x3, x4, x5, x6, x7, x8, x9, x10, x11, x12, x13, x14, x15, x16, x17, x18, x19, x20, x21, x22, x23, x24, x25, x26, x27, x28, x29, x30, x31, x32, x33, x34, x35, x36, x37, x38, x39, x40, x41, x42, x43, x44, x45, x46, x47, x48, x49, x50, x51, x52, x53, x54, x55, x56, x57, x58, x59, x60, x61, x62, x63, x64, x65, x66, x67, x68, x69, x70, x71, x72, x73, x74, x75, x76, x77, x78, x79, x80, x81, x82, x83, x84, x85, x86, x87, x88, x89, x90, x91, x92, x93, x94, x95, x96, x97, x98, x99, x100, x101, x102, x103, x104, x105, x106, x107, x108, x109, x110, x111, x112, x113, x114, x115, x116, x117, x118, x119, x120, x121, x122, x123, x124, x125, x126, x127, x128, x129, x130, x131, x132] at h
    exact h
  obtain ⟨tmps, defers⟩ := a
  obtain rfl : defers = [] := hd
  have hl' : tmps = _ := hl
  rw [hl']
  have hb' := est2_chg hb
  exact hend w' ⟨hb'.os, hb'.tape, hb'.output, hb'.size, hb'.block⟩

end Go.Proofs.Ytjlhbaohippidaa

/-! MeansP -/
namespace Go.Proofs.Ytjlhbaohippidaa
open Go.RowKit Go.Proofs.YtjlhbaohippidaaW.PrintWords Go.RegionInvYtjlhbaohippidaa Go.RegionEYtjlhbaohippidaa

theorem val_ge {vs : List Int} {f : Nf} (h0 : NfOk f) : leastN f ≤ valN vs f := by
  have h := (valN_le (vs := vs) (f := f) (b := valN vs f)).1 (Int.le_refl _)
  refine least_le h.1 fun j => ?_
  by_cases h1 : 0 ≤ atP f.2 j
  · have h2 := h.2 j h1
    have h3 := vAt_in vs j
    have h4 := (atP_ok h0.2.2.1 j).2
    omega
  · have := h.1; have := h0.1; omega
theorem val_mono {vs : List Int} {f g : Nf} (hg : NfOk g) (h : leqR f g) : valN vs f ≤ valN vs g := by
  have h1 := (valN_le (vs := vs) (f := g) (b := valN vs g)).1 (Int.le_refl _)
  refine valN_le.2 ⟨Int.le_trans h.2 (val_ge hg), fun i hi => ?_⟩
  have h2 := h.1 i
  have h3 := h1.2 i (by omega)
  omega
theorem val_eqR {vs : List Int} {f g : Nf} (hf : NfOk f) (hg : NfOk g) (h : eqR f g) : valN vs f = valN vs g := by
  have := (eqR_leqR hf hg).1 h
  exact Int.le_antisymm (val_mono hg this.1) (val_mono hf this.2)
theorem means_leq {vs : List Int} {a b : Lv} (ha : soundB a = true) (hb : soundB b = true) (h : leqP a b = true) : valB vs a ≤ valB vs b := by
  rw [valB_yes ha, valB_yes hb]; exact val_mono (sumP_ok hb) ((leqP_iff ha hb).1 h)
theorem means_eq {vs : List Int} {a b : Lv} (ha : soundB a = true) (hb : soundB b = true) (h : eqP a b = true) : valB vs a = valB vs b := by
  rw [valB_yes ha, valB_yes hb]; exact val_eqR (sumP_ok ha) (sumP_ok hb) ((eqP_iff ha hb).1 h)
theorem eqP_leq {a b : Lv} (ha : soundB a = true) (hb : soundB b = true) (h : eqP a b = true) : leqP a b = true :=
  (leqP_iff ha hb).2 ((eqR_leqR (sumP_ok ha) (sumP_ok hb)).1 ((eqP_iff ha hb).1 h)).1
theorem means_red {vs : List Int} {a : Lv} (ha : soundB a = true) (hr : soundB (redP a) = true) : valB vs (redP a) = valB vs a := by
  rw [valB_yes ha, valB_yes hr]; exact val_eqR (sumP_ok hr) (sumP_ok ha) (red_sum ha)
def greatL (n : Nat) (i : Int) : List Int := if i < 0 then List.replicate n 0 else (List.replicate n 0).set i.toNat 34359738368
theorem great_len (n : Nat) (i : Int) : (greatL n i).length = n := by unfold greatL; split <;> simp
theorem great_at (n : Nat) (i : Int) (j : Nat) : vAt (greatL n i) j = if (j : Int) = i ∧ j < n then 34359738368 else 0 := by
  unfold vAt
  rw [great_len]
  by_cases hj : j < n
  · rw [if_pos hj, rd_nat']
    unfold greatL
    by_cases hi : i < 0
    · rw [if_pos hi, if_neg (by omega), List.getD_eq_getElem?_getD, List.getElem?_replicate, if_pos hj]; decide
    · rw [if_neg hi, List.getD_eq_getElem?_getD, List.getElem?_set]
      by_cases he : i.toNat = j
      · rw [if_pos he, if_pos (by simpa using (by omega : i.toNat < n)), if_pos ⟨by omega, hj⟩]; decide
      · rw [if_neg he, if_neg (by omega), List.getElem?_replicate, if_pos hj]; decide
  · rw [if_neg hj, if_neg (by omega)]
theorem means_not {a b : Lv} (ha : soundB a = true) (hb : soundB b = true) (hla : litP a = true) (hlb : litP b = true) (h : leqP a b = false) :
    ∃ i : Int, -1 ≤ i ∧ i < (nfP a).2.length ∧ valB (greatL (nfP a).2.length i) b < valB (greatL (nfP a).2.length i) a := by
  have hf := sumP_ok ha
  have hg := sumP_ok hb
  have sf := sml_sound ha hla
  have sg := sml_sound hb hlb
  rw [nfP_sound ha]
  have hn : ¬ leqR (sumP a) (sumP b) := fun h' => by rw [(leqP_iff ha hb).2 h'] at h; cases h
  obtain ⟨n, hnn⟩ : ∃ n, n = (shortN (sumP a)).2.length := ⟨_, rfl⟩
  rw [← hnn]
  simp only [valB_yes ha, valB_yes hb]
  by_cases hj : ∃ j : Nat, atP (sumP b).2 j < atP (sumP a).2 j
  · obtain ⟨j, hj⟩ := hj
    have hb0 := atP_ge hg j
    have hlt : j < n := by
      by_cases hlt : j < n
      · exact hlt
      · exfalso
        have e := atP_short hf j
        rw [atP_beyond (by omega)] at e
        omega
    refine ⟨j, by omega, by omega, ?_⟩
    have h1 := (valN_le (vs := greatL n j) (f := sumP a) (b := valN (greatL n j) (sumP a))).1 (Int.le_refl _)
    have h2 := h1.2 j (by omega)
    rw [great_at, if_pos ⟨rfl, hlt⟩] at h2
    have h3 := sf.2 j
    have h4 : valN (greatL n j) (sumP b) ≤ 34359738368 + atP (sumP a).2 j - 1 := by
      refine valN_le.2 ⟨by have := sg.1; omega, fun i hi => ?_⟩
      rw [great_at]
      by_cases e : (i : Int) = j ∧ i < n
      · rw [if_pos e]
        obtain rfl : i = j := by omega
        omega
      · rw [if_neg e]
        have := sg.2 i
        omega
    omega
  · have hc : leastN (sumP b) < (sumP a).1 := by
      by_cases hc : leastN (sumP b) < (sumP a).1
      · exact hc
      · exfalso
        apply hn
        refine ⟨fun j => ?_, by omega⟩
        by_cases h1 : atP (sumP a).2 j ≤ atP (sumP b).2 j
        · exact h1
        · exact absurd ⟨j, by omega⟩ hj
    refine ⟨-1, by omega, by omega, ?_⟩
    have h1 := (valN_le (vs := greatL n (-1)) (f := sumP a) (b := valN (greatL n (-1)) (sumP a))).1 (Int.le_refl _)
    have h0 := least_ge (sumP b)
    have hb0 := hg.1
    have h2 : valN (greatL n (-1)) (sumP b) ≤ leastN (sumP b) := by
      refine valN_le.2 ⟨h0, fun i hi => ?_⟩
      rw [great_at, if_neg (by omega)]
      have := least_at (f := sumP b) i (by omega)
      omega
    have := h1.1
    omega
/-- The walk's end: not at most, and yet at no values more. -/
theorem means_end {a b : Lv} (ha : soundB a = true) (hb : soundB b = true) (hla : litP a = true) (hlb : litP b = true) (h : leqP a b = false)
    (hall : ∀ i : Int, -1 ≤ i → i < (nfP a).2.length → valB (greatL (nfP a).2.length i) a ≤ valB (greatL (nfP a).2.length i) b) : False := by
  obtain ⟨i, h0, h1, h2⟩ := means_not ha hb hla hlb h
  have := hall i h0 h1
  omega
end Go.Proofs.Ytjlhbaohippidaa

/-! Bx -/
namespace Go.Proofs.Ytjlhbaohippidaa
open Go.RowKit Go.Proofs.YtjlhbaohippidaaW.PrintWords Go.RegionInvYtjlhbaohippidaa Go.RegionEYtjlhbaohippidaa
abbrev bx3 (w : World) (A B C : Option Addr) (c c' c'' : Nat) (a b d : Lv) : World := (bx2 w A B c c' a b).alloc (.cells #[.int .i64 d.kind, .int .i64 d.num, .slice C d.kids.length c''] 24 (0, 0))
theorem box2_3 (w : World) (A B C : Option Addr) (c c' c'' : Nat) (a b d : Lv) : (bx3 w A B C c c' c'' a b d).heap[w.heap.size + 1 + 1]? = some (.cells #[.int .i64 d.kind, .int .i64 d.num, .slice C d.kids.length c''] 24 (0, 0)) := by
  have := blk_new (bx2 w A B c c' a b) (.cells #[.int .i64 d.kind, .int .i64 d.num, .slice C d.kids.length c''] 24 (0, 0))
  simpa [bx2] using this
theorem lv_old {w w1 : World} {A : Option Addr} {c : Nat} {l : Lv} (h : LvIn w w.heap.size A c l) (hb : Below w.heap.size w w1) : LvS w1 (fun k => k < w1.heap.size) A c l := (h.stay hb).mono hb.size
end Go.Proofs.Ytjlhbaohippidaa

/-! LawMe -/
namespace Go.Proofs.Ytjlhbaohippidaa
open Go.RowKit Go.IntWalk Go.Proofs.YtjlhbaohippidaaW.PrintWords Go.RegionInvYtjlhbaohippidaa Go.RegionEYtjlhbaohippidaa

theorem gi (l : Lv) : soundB l = true ∨ soundB l = false := by cases soundB l <;> simp
theorem gt (l : Lv) : litP l = true ∨ litP l = false := by cases litP l <;> simp
theorem gl (a b : Lv) : leqP a b = true ∨ leqP a b = false := by cases leqP a b <;> simp
theorem ge (a b : Lv) : eqP a b = true ∨ eqP a b = false := by cases eqP a b <;> simp
/-- The numbers, whatever they are by now. -/
def VsSt (w0 wr : World) (nv : Nat) (v : Value) : Prop := ∃ A' c' vs', v = .slice A' nv c' ∧ nv ≤ c' ∧ ReadsInt wr .i64 A' nv vs' ∧ Below w0.heap.size w0 wr
theorem own_vs {w0 w wr : World} {b n : Nat} {v : Value} {xs : List Int} (h : wr.ownsRow b 3 1 v n (nums .i64 xs)) (hb : Below w0.heap.size w0 wr) : VsSt w0 wr n v := by
  obtain ⟨A, c, rfl, hr⟩ := own_reads h
  refine ⟨A, c, xs, rfl, ?_, hr, hb⟩
  rcases h.2 with ⟨h1, h2⟩ | ⟨g, cap, cur, h1, -, -, h2, -⟩
  · omega
  · injection h1 with _ _ h1; omega
theorem great_lo {n : Nat} {j : Int} (h : j < 0) : greatL n j = List.replicate n 0 := if_pos h
theorem great_hi {n : Nat} {j : Int} (h : ¬ j < 0) : greatL n j = (List.replicate n 0).set j.toNat 34359738368 := if_neg h
set_option maxRecDepth 4000 in
set_option maxHeartbeats 16000000 in
theorem meansLaw_calls (A B V : Option Addr) (c c' nv cv : Nat) (a b : Lv) (vs : List Int) (w : World) (ha : LvIn w w.heap.size A c a) (hb : LvIn w w.heap.size B c' b) (hv : ReadsInt w .i64 V nv vs) (hcap : nv ≤ cv) :
    Calls Try.prog 10 #[lvV A c a, lvV B c' b, .slice V nv cv] w fun e w' => e = .returned (.bool true) ∧ Below w.heap.size w w' := by
  have HA := Aside0.mk ha
  have HB := Aside0.mk hb
  have HV := Aside0.mk hv
  have HCAP := Aside0.mk hcap
  have HW := Aside0.mk (show Below w.heap.size w (bx2 w A B c c' a b) from below_alloc (below_alloc (Below.refl _ _) _) _)
  have HX := Aside0.mk (show (bx2 w A B c c' a b).heap[w.heap.size]? = some (.cells #[.int .i64 a.kind, .int .i64 a.num, .slice A a.kids.length c] 24 (0, 0)) from box0 w _ _)
  have HY := Aside0.mk (show (bx2 w A B c c' a b).heap[w.heap.size + 1]? = some (.cells #[.int .i64 b.kind, .int .i64 b.num, .slice B b.kids.length c'] 24 (0, 0)) from box1 w _ _)
  clear ha hb hv hcap
  unfold lvV
  go_enter Try.func10, Try.ntmps10
  have HBL := HW
  rcases gi a with hsa | hsa
  · have SA := Aside0.mk hsa
    clear hsa
    rcases gi b with hsb | hsb
    · have SB := Aside0.mk hsb
      clear hsb
      rcases gt a with hla | hla
      · have LA := Aside0.mk hla
        clear hla
        rcases gt b with hlb | hlb
        · have LB := Aside0.mk hlb
          clear hlb
          by_cases hn : 1100 < nv
          · have hn' : decide ((1100 : Int) < (nv : Int)) = true := by simp; omega
            clear hn
            go_wp2_with (first
              | (go_at_call 13; go_must (refine (awake_calls _).mono ?_; rintro e w9 ⟨rfl, hb⟩; have HBN := Aside0.mk (below_then HBL.out HBL.out.size hb); clear hb HBL; have HBL := HBN; clear HBN))
              | (have hg := HX3; clear hg; go_at_call 19; go_must (refine (little_calls _ b (Nat.lt_succ_self _) B c' _ (LvS.all (HB.out.stay HBL.out))).mono ?_; rintro e w4 ⟨rfl, hb⟩; rw [LB.out]; have HBN := Aside0.mk (below_then HBL.out HBL.out.size hb); have HX4 := Aside0.mk (blk_below HX3.out hb); have HY4 := Aside0.mk (blk_below HY3.out hb); clear hb HBL; have HBL := HBN; clear HBN))
              | (have hg := HX2; clear hg; go_at_call 19; go_must (refine (little_calls _ a (Nat.lt_succ_self _) A c _ (LvS.all (HA.out.stay HBL.out))).mono ?_; rintro e w3 ⟨rfl, hb⟩; rw [LA.out]; have HBN := Aside0.mk (below_then HBL.out HBL.out.size hb); have HX3 := Aside0.mk (blk_below HX2.out hb); have HY3 := Aside0.mk (blk_below HY2.out hb); obtain ⟨p0, p1, p2, -, -, -⟩ := row3 HY3.out; clear hb HBL; have HBL := HBN; clear HBN))
              | (have hg := HX1; clear hg; go_at_call 16; go_must (refine (refSound_calls B c' b _ (LvS.all (HB.out.stay HBL.out))).mono ?_; rintro e w2 ⟨rfl, hb⟩; rw [SB.out]; have HBN := Aside0.mk (below_then HBL.out HBL.out.size hb); have HX2 := Aside0.mk (blk_below HX1.out hb); have HY2 := Aside0.mk (blk_below HY1.out hb); obtain ⟨p0, p1, p2, -, -, -⟩ := row3 HX2.out; clear hb HBL; have HBL := HBN; clear HBN))
              | (go_at_call 16; go_must (refine (refSound_calls A c a _ (LvS.all (HA.out.stay HBL.out))).mono ?_; rintro e w1 ⟨rfl, hb⟩; rw [SA.out]; have HBN := Aside0.mk (below_then HBL.out HBL.out.size hb); have HX1 := Aside0.mk (blk_below HX.out hb); have HY1 := Aside0.mk (blk_below HY.out hb); obtain ⟨p0, p1, p2, -, -, -⟩ := row3 HY1.out; clear hb HBL; have HBL := HBN; clear HBN)))
            go_ret
            exact ⟨rfl, HBL.out⟩
          · have HN := Aside0.mk (show nv ≤ 1100 by omega)
            have hn' : decide ((1100 : Int) < (nv : Int)) = false := by simp; omega
            clear hn
            go_upto_block 0 with (first
              | (have hg := HX3; clear hg; go_at_call 19; go_must (refine (little_calls _ b (Nat.lt_succ_self _) B c' _ (LvS.all (HB.out.stay HBL.out))).mono ?_; rintro e w4 ⟨rfl, hb⟩; rw [LB.out]; have HBN := Aside0.mk (below_then HBL.out HBL.out.size hb); have HX4 := Aside0.mk (blk_below HX3.out hb); have HY4 := Aside0.mk (blk_below HY3.out hb); clear hb HBL; have HBL := HBN; clear HBN))
              | (have hg := HX2; clear hg; go_at_call 19; go_must (refine (little_calls _ a (Nat.lt_succ_self _) A c _ (LvS.all (HA.out.stay HBL.out))).mono ?_; rintro e w3 ⟨rfl, hb⟩; rw [LA.out]; have HBN := Aside0.mk (below_then HBL.out HBL.out.size hb); have HX3 := Aside0.mk (blk_below HX2.out hb); have HY3 := Aside0.mk (blk_below HY2.out hb); obtain ⟨p0, p1, p2, -, -, -⟩ := row3 HY3.out; clear hb HBL; have HBL := HBN; clear HBN))
              | (have hg := HX1; clear hg; go_at_call 16; go_must (refine (refSound_calls B c' b _ (LvS.all (HB.out.stay HBL.out))).mono ?_; rintro e w2 ⟨rfl, hb⟩; rw [SB.out]; have HBN := Aside0.mk (below_then HBL.out HBL.out.size hb); have HX2 := Aside0.mk (blk_below HX1.out hb); have HY2 := Aside0.mk (blk_below HY1.out hb); obtain ⟨p0, p1, p2, -, -, -⟩ := row3 HX2.out; clear hb HBL; have HBL := HBN; clear HBN))
              | (go_at_call 16; go_must (refine (refSound_calls A c a _ (LvS.all (HA.out.stay HBL.out))).mono ?_; rintro e w1 ⟨rfl, hb⟩; rw [SA.out]; have HBN := Aside0.mk (below_then HBL.out HBL.out.size hb); have HX1 := Aside0.mk (blk_below HX.out hb); have HY1 := Aside0.mk (blk_below HY.out hb); obtain ⟨p0, p1, p2, -, -, -⟩ := row3 HY1.out; clear hb HBL; have HBL := HBN; clear HBN)))
            clear hn'
            go_cut [2] (fun v wr => Aside0 (VsSt w4 wr nv v))
            case first =>
              have HV4 := Aside0.mk (HV.out.below HBL.out)
              have hnv : nv ≤ 1100 := HN.out
              go_wp2
              go_loopw [42, 2] (fun i v wr => ∃ (j : Nat), i = .int .i64 j ∧ j ≤ nv ∧ Aside0 (VsSt w4 wr nv v)) (fun i _ _ => nv - (intOf i).toNat)
              case atStart => exact ⟨0, rfl, Nat.zero_le _, ⟨V, cv, vs, rfl, HCAP.out, HV4.out, Below.refl _ _⟩⟩
              case round =>
                obtain ⟨j, rfl, hj, HST⟩ := hrel
                have HST := Aside0.mk HST.out
                by_cases hlt : j < nv
                · obtain ⟨A', cc, vs', rfl, hcc, hr', hb'⟩ := HST.out
                  have HR := Aside0.mk hr'
                  have HB' := Aside0.mk hb'
                  have HCC := Aside0.mk hcc
                  clear hr' hb' hcc
                  obtain ⟨ad, rfl, hc⟩ := (HV4.out.below HB'.out).at_ j (by omega) (by omega)
                  rw [Int.toNat_natCast] at hc
                  obtain ⟨z, hz⟩ : ∃ z, z = rd vs j := ⟨_, rfl⟩
                  rw [← hz] at hc
                  clear hz
                  by_cases hz : z < 0 ∨ 1073741824 < z
                  · obtain ⟨ad', e', -⟩ := HR.out.2.2 (by omega)
                    subst e'
                    have HSW := HST
                    rcases hz with hz | hz
                    · go_upto_region 7 with (fail)
                      refine mc_region _ ad' j nv cc vs' HR.out HCC.out hlt hnv (by rw [i64_left, wrap64_in _ (by omega)]; omega) ?_
                      rintro w6 u2 u56 u57 u58 u63 O11 hch hf -
                      have HST6 := Aside0.mk (own_vs (w := w4) hf.1 (below_then HB'.out HB'.out.size (hch.below (fun _ h => h.elim False.elim False.elim) (Nat.le_refl _))))
                      clear hch hf
                      go_wp2
                      go_roundw
                      case rel => exact ⟨j + 1, by go_num, by omega, HST6⟩
                      case measure => (simp [intOf]; try omega)
                    · have hz0 : decide (z < 0) = false := by simp; omega
                      go_upto_region 7 with (fail)
                      refine mc_region _ ad' j nv cc vs' HR.out HCC.out hlt hnv (by rw [i64_left, wrap64_in _ (by omega)]; omega) ?_
                      rintro w6 u2 u56 u57 u58 u63 O11 hch hf -
                      have HST6 := Aside0.mk (own_vs (w := w4) hf.1 (below_then HB'.out HB'.out.size (hch.below (fun _ h => h.elim False.elim False.elim) (Nat.le_refl _))))
                      clear hch hf
                      go_wp2
                      go_roundw
                      case rel => exact ⟨j + 1, by go_num, by omega, HST6⟩
                      case measure => (simp [intOf]; try omega)
                  · have hz0 : decide (z < 0) = false := by simp; omega
                    have hz1 : decide (1073741824 < z) = false := by simp; omega
                    clear hz
                    go_wp2
                    go_roundw
                    case rel => exact ⟨j + 1, by go_num, by omega, HST⟩
                    case measure => (simp [intOf]; try omega)
                · obtain rfl : j = nv := by omega
                  have hlt' : decide ((j : Int) < j) = false := by simp
                  go_wp2
                  go_meet
                  case rel => exact HST
            case rest =>
              obtain ⟨A', cc, vs', rfl, hcc, hr', hb'⟩ := hcut
              have HR := Aside0.mk hr'
              have HX5 := Aside0.mk (blk_below HX4.out hb')
              have HY5 := Aside0.mk (blk_below HY4.out hb')
              have HBN := Aside0.mk (below_then HBL.out HBL.out.size hb')
              clear hr' hb' hcc HBL
              have HBL := HBN
              clear HBN
              go_upto_region 9 with (fail)
              refine mv_region wc w.heap.size A B A' c c' nv cc a b vs' HX5.out (lv_old HA.out HBL.out) HY5.out (lv_old HB.out HBL.out) HR.out ?_
              intro w6 hch
              have hb : Below wc.heap.size wc w6 := hch.below (fun _ h => h.elim False.elim False.elim) (Nat.le_refl _)
              have HX6 := Aside0.mk (blk_below HX5.out hb)
              have HY6 := Aside0.mk (blk_below HY5.out hb)
              have HR6 := Aside0.mk (HR.out.below hb)
              have HBN := Aside0.mk (below_then HBL.out HBL.out.size hb)
              clear hch hb HBL
              have HBL := HBN
              clear HBN
              have HXY := Aside0.mk (means_leq (vs := vs') SA.out SB.out)
              have HXE := Aside0.mk (means_eq (vs := vs') SA.out SB.out)
              have HXR := Aside0.mk (means_red (vs := vs') SA.out)
              obtain ⟨x, hx⟩ : ∃ x, x = valB vs' a := ⟨_, rfl⟩
              obtain ⟨y, hy⟩ : ∃ y, y = valB vs' b := ⟨_, rfl⟩
              rw [← hx, ← hy] at HXY HXE ⊢
              rw [← hx] at HXR
              clear hx hy
              go_upto_region 10 with (fail)
              refine mr_region w6 w.heap.size A c a HX6.out (lv_old HA.out HBL.out) SA.out ?_
              rintro w7 u11 u72 v3 O3 hch ⟨p, rfl, hf⟩ -
              have hb : Below w6.heap.size w6 w7 := hch.below (fun _ h => h.elim False.elim False.elim) (Nat.le_refl _)
              have HX7 := Aside0.mk (blk_below HX6.out hb)
              have HY7 := Aside0.mk (blk_below HY6.out hb)
              have HR7 := Aside0.mk (HR6.out.below hb)
              have HBN := Aside0.mk (below_then HBL.out HBL.out.size hb)
              clear hch hb HBL
              have HBL := HBN
              clear HBN
              obtain ⟨Ar, cr, hpr, -, hlr⟩ := hf
              obtain ⟨r, hr⟩ : ∃ r, r = redP a := ⟨_, rfl⟩
              rw [← hr] at hpr hlr HXR
              have HLR := Aside0.mk (LvS.all hlr)
              have HP7 := Aside0.mk hpr
              clear hpr hlr hr
              go_upto_region 11 with (fail)
              go_cut [101] (fun v wr => v = .bool false ∧ Aside0 (Below w7.heap.size w7 wr))
              case first =>
                rename_i JJ KK HJJ HCUT
                rcases gl a b with hlq | hlq <;> rcases ge a b with heq | heq <;> rcases gi r with hsr | hsr
                · refine ma111_region w7 w.heap.size p A B Ar A' c c' cr nv cc a b r vs' x y HX7.out (lv_old HA.out HBL.out) HY7.out (lv_old HB.out HBL.out) HP7.out HLR.out HR7.out hlq (by have := HXY.out hlq; exact decide_eq_false (by omega)) heq (HXE.out heq) hsr (HXR.out hsr) ?_
                  intro w8 hch
                  have HB8 := Aside0.mk (hch.below (B := w7.heap.size) (fun _ h => h.elim False.elim False.elim) (Nat.le_refl _))
                  clear hch
                  refine HCUT _ _ ?_
                  go_meet
                  case rel => exact ⟨rfl, HB8⟩
                · refine ma110_region w7 w.heap.size p A B Ar A' c c' cr nv cc a b r vs' x y HX7.out (lv_old HA.out HBL.out) HY7.out (lv_old HB.out HBL.out) HP7.out HLR.out HR7.out hlq (by have := HXY.out hlq; exact decide_eq_false (by omega)) heq (HXE.out heq) hsr ?_
                  intro w8 hch
                  have HB8 := Aside0.mk (hch.below (B := w7.heap.size) (fun _ h => h.elim False.elim False.elim) (Nat.le_refl _))
                  clear hch
                  refine HCUT _ _ ?_
                  go_meet
                  case rel => exact ⟨rfl, HB8⟩
                · refine ma101_region w7 w.heap.size p A B Ar A' c c' cr nv cc a b r vs' x y HX7.out (lv_old HA.out HBL.out) HY7.out (lv_old HB.out HBL.out) HP7.out HLR.out HR7.out hlq (by have := HXY.out hlq; exact decide_eq_false (by omega)) heq hsr (HXR.out hsr) ?_
                  intro w8 hch
                  have HB8 := Aside0.mk (hch.below (B := w7.heap.size) (fun _ h => h.elim False.elim False.elim) (Nat.le_refl _))
                  clear hch
                  refine HCUT _ _ ?_
                  go_meet
                  case rel => exact ⟨rfl, HB8⟩
                · refine ma100_region w7 w.heap.size p A B Ar A' c c' cr nv cc a b r vs' x y HX7.out (lv_old HA.out HBL.out) HY7.out (lv_old HB.out HBL.out) HP7.out HLR.out HR7.out hlq (by have := HXY.out hlq; exact decide_eq_false (by omega)) heq hsr ?_
                  intro w8 hch
                  have HB8 := Aside0.mk (hch.below (B := w7.heap.size) (fun _ h => h.elim False.elim False.elim) (Nat.le_refl _))
                  clear hch
                  refine HCUT _ _ ?_
                  go_meet
                  case rel => exact ⟨rfl, HB8⟩
                · exact absurd ((eqP_leq SA.out SB.out heq).symm.trans hlq) (by decide)
                · exact absurd ((eqP_leq SA.out SB.out heq).symm.trans hlq) (by decide)
                · refine ma001_region w7 w.heap.size p A B Ar A' c c' cr nv cc a b r vs' x y HX7.out (lv_old HA.out HBL.out) HY7.out (lv_old HB.out HBL.out) HP7.out HLR.out HR7.out hlq heq hsr (HXR.out hsr) ?_
                  intro w8 hch
                  have HB8 := Aside0.mk (hch.below (B := w7.heap.size) (fun _ h => h.elim False.elim False.elim) (Nat.le_refl _))
                  clear hch
                  refine HCUT _ _ ?_
                  go_meet
                  case rel => exact ⟨rfl, HB8⟩
                · refine ma000_region w7 w.heap.size p A B Ar A' c c' cr nv cc a b r vs' x y HX7.out (lv_old HA.out HBL.out) HY7.out (lv_old HB.out HBL.out) HP7.out HLR.out HR7.out hlq heq hsr ?_
                  intro w8 hch
                  have HB8 := Aside0.mk (hch.below (B := w7.heap.size) (fun _ h => h.elim False.elim False.elim) (Nat.le_refl _))
                  clear hch
                  refine HCUT _ _ ?_
                  go_meet
                  case rel => exact ⟨rfl, HB8⟩
              case rest =>
                rename_i wd
                obtain ⟨rfl, ⟨hb⟩⟩ := hcut
                have HX8 := Aside0.mk (blk_below HX7.out hb)
                have HY8 := Aside0.mk (blk_below HY7.out hb)
                have HBN := Aside0.mk (below_then HBL.out HBL.out.size hb)
                clear hb HBL HXY HXE HXR
                have HBL := HBN
                clear HBN
                obtain ⟨p0, p1, p2, -, -, -⟩ := row3 HX8.out
                obtain ⟨q0, q1, q2, -, -, -⟩ := row3 HY8.out
                rcases gl a b with hlq | hlq
                · have LQ := Aside0.mk hlq
                  clear hlq
                  go_wp2_with (first
                    | (go_at_call 21; go_must (refine (leq_calls A B c c' a b _ (LvS.all (HA.out.stay HBL.out)) (LvS.all (HB.out.stay HBL.out))).mono ?_; rintro e w9 ⟨rfl, hb⟩; rw [LQ.out]; have HBN := Aside0.mk (below_then HBL.out HBL.out.size hb); clear hb HBL; have HBL := HBN; clear HBN))
                    | (go_at_call 13; go_must (refine (awake_calls _).mono ?_; rintro e w10 ⟨rfl, hb⟩; have HBN := Aside0.mk (below_then HBL.out HBL.out.size hb); clear hb HBL; have HBL := HBN; clear HBN)))
                  go_ret
                  exact ⟨rfl, HBL.out⟩
                · have LQ := Aside0.mk hlq
                  clear hlq
                  go_upto_block 2 with (first
                    | (go_at_call 21; go_must (refine (leq_calls A B c c' a b _ (LvS.all (HA.out.stay HBL.out)) (LvS.all (HB.out.stay HBL.out))).mono ?_; rintro e w9 ⟨rfl, hb⟩; rw [LQ.out]; have HBN := Aside0.mk (below_then HBL.out HBL.out.size hb); have HX9 := Aside0.mk (blk_below HX8.out hb); have HY9 := Aside0.mk (blk_below HY8.out hb); obtain ⟨i0, i1, i2, -, -, -⟩ := row3 HX9.out; clear hb HBL; have HBL := HBN; clear HBN))
                    | (go_at_call 26; go_must (refine (norm_calls A c a _ (LvS.all (HA.out.stay HBL.out))).mono ?_; rintro e w10 ⟨A5, n5, c5, rfl, hcap5, hi5, hb⟩; have HBN := Aside0.mk (below_then HBL.out HBL.out.size hb); have HX10 := Aside0.mk (blk_below HX9.out hb); have HY10 := Aside0.mk (blk_below HY9.out hb); have HNL := Aside0.mk hi5.1.1; clear hb HBL hi5 hcap5; have HBL := HBN; clear HBN)))
                  have HL5 := Aside0.mk (show n5 ≤ 1001 by have h := HNL.out; rw [nfP_sound SA.out] at h; rw [← h]; exact short_len_le' SA.out)
                  have hl5 := HL5.out
                  have MK := print_make 29 3 .i64 8 Try.underlying29 infoI64 (by decide) n5 (by omega)
                  go_wp2
                  go_loopw [14] (fun i wr => ∃ (j : Int), i = .int .i64 j ∧ -1 ≤ j ∧ j ≤ n5 ∧ Aside0 (∀ k : Int, -1 ≤ k → k < j → valB (greatL n5 k) a ≤ valB (greatL n5 k) b) ∧ Aside0 (Below w10.heap.size w10 wr)) (fun i _ => (n5 - (intOf i)).toNat)
                  case atStart => exact ⟨-1, rfl, by omega, by omega, ⟨fun k h1 h2 => by omega⟩, ⟨Below.refl _ _⟩⟩
                  case round =>
                    obtain ⟨j, rfl, hj0, hj1, ⟨hall⟩, ⟨hbw⟩⟩ := hrel
                    have HALL := Aside0.mk hall
                    have HBW := Aside0.mk (below_then HBL.out HBL.out.size hbw)
                    have HX11 := Aside0.mk (blk_below HX10.out hbw)
                    have HY11 := Aside0.mk (blk_below HY10.out hbw)
                    have HB10 := Aside0.mk hbw
                    clear hall hbw
                    by_cases hlt : j < (n5 : Int)
                    · have hd : decide (j < (n5 : Int)) = true := decide_eq_true hlt
                      have HMD := Aside0.mk (own_made wr wr.heap.size 3 .i64 n5 (Nat.le_refl _) (by omega))
                      have hbm : Below wr.heap.size wr (wr.alloc (.cells (madeCells #[.int .i64 0] n5) 3)) := below_alloc (Below.refl _ _) _
                      have HBM := Aside0.mk hbm
                      clear hbm
                      by_cases hz : j < 0
                      · have hz' : decide (0 ≤ j) = false := decide_eq_false (by omega)
                        have HG := Aside0.mk (great_lo (n := n5) hz)
                        go_upto_region 22 with (fail)
                        obtain ⟨d, hdd⟩ : ∃ d, d = decide (valB (greatL n5 j) b < valB (greatL n5 j) a) := ⟨_, rfl⟩
                        have HD := Aside0.mk hdd
                        clear hdd
                        refine mg_region _ w.heap.size A B _ c c' n5 n5 a b (greatL n5 j) d (blk_below HX11.out HBM.out) (lv_old HA.out (below_then HBW.out HBW.out.size HBM.out)) (blk_below HY11.out HBM.out) (lv_old HB.out (below_then HBW.out HBW.out.size HBM.out)) (by rw [HG.out]; exact own_reads' HMD.out) HD.out.symm ?_
                        intro w12 hch
                        have HB12 := Aside0.mk (below_then HBM.out HBM.out.size (hch.below (fun _ h => h.elim False.elim False.elim) (Nat.le_refl _)))
                        clear hch HMD HBM
                        cases d with
                        | true =>
                          clear hz hz' hlt hd
                          go_wp2_with (go_at_call 13; go_must (refine (awake_calls _).mono ?_; rintro e w13 ⟨rfl, hb⟩; have HB13 := Aside0.mk (below_then HB12.out HB12.out.size hb); clear hb))
                          go_ret
                          exact ⟨rfl, below_then HBW.out HBW.out.size HB13.out⟩
                        | false =>
                          have HALL' := Aside0.mk (show ∀ k : Int, -1 ≤ k → k < j + 1 → valB (greatL n5 k) a ≤ valB (greatL n5 k) b from fun k h1 h2 => by
                            by_cases e : k = j
                            · subst e
                              exact Int.not_lt.1 (of_decide_eq_false HD.out.symm)
                            · exact HALL.out k h1 (by omega))
                          have HBB := Aside0.mk (below_then HB10.out HB10.out.size HB12.out)
                          have hwj : IntKind.i64.wrap (j + 1) = j + 1 := by rw [i64_left, wrap64_in _ (by omega)]
                          clear hz hz' hd HD HG
                          go_wp2
                          go_roundw
                          case rel => exact ⟨j + 1, by first | rw [hwj] | go_num, by omega, by omega, HALL', HBB⟩
                          case measure => (simp [intOf]; try omega)
                      · have hz' : decide (0 ≤ j) = true := decide_eq_true (by omega)
                        have HG := Aside0.mk (great_hi (n := n5) hz)
                        go_upto_region 21 with (fail)
                        obtain ⟨W, hW⟩ : ∃ W, W = wr.alloc (.cells (madeCells #[.int .i64 0] n5) 3) := ⟨_, rfl⟩
                        rw [← hW] at HMD HBM ⊢
                        clear hW
                        have hat := own_at HMD.out j (by omega) hlt
                        obtain ⟨c1, c2⟩ := hat
                        have HST := Aside0.mk (own_store HMD.out j 34359738368)
                        go_upto_region 22 with (fail)
                        obtain ⟨d, hdd⟩ : ∃ d, d = decide (valB (greatL n5 j) b < valB (greatL n5 j) a) := ⟨_, rfl⟩
                        have HD := Aside0.mk hdd
                        have HBM2 := Aside0.mk (HBM.out.grown HST.out.2 HBM.out.size (fun k hk => by injection hk with hk; omega))
                        clear hdd HBM
                        refine mg_region _ w.heap.size A B _ c c' n5 n5 a b (greatL n5 j) d (blk_below HX11.out HBM2.out) (lv_old HA.out (below_then HBW.out HBW.out.size HBM2.out)) (blk_below HY11.out HBM2.out) (lv_old HB.out (below_then HBW.out HBW.out.size HBM2.out)) (by rw [HG.out]; exact own_reads' HST.out.1) HD.out.symm ?_
                        intro w12 hch
                        have HB12 := Aside0.mk (below_then HBM2.out HBM2.out.size (hch.below (fun _ h => h.elim False.elim False.elim) (Nat.le_refl _)))
                        clear hch HMD HBM2 HST c1 c2
                        cases d with
                        | true =>
                          clear hz hz' hlt hd
                          go_wp2_with (go_at_call 13; go_must (refine (awake_calls _).mono ?_; rintro e w13 ⟨rfl, hb⟩; have HB13 := Aside0.mk (below_then HB12.out HB12.out.size hb); clear hb))
                          go_ret
                          exact ⟨rfl, below_then HBW.out HBW.out.size HB13.out⟩
                        | false =>
                          have HALL' := Aside0.mk (show ∀ k : Int, -1 ≤ k → k < j + 1 → valB (greatL n5 k) a ≤ valB (greatL n5 k) b from fun k h1 h2 => by
                            by_cases e : k = j
                            · subst e
                              exact Int.not_lt.1 (of_decide_eq_false HD.out.symm)
                            · exact HALL.out k h1 (by omega))
                          have HBB := Aside0.mk (below_then HB10.out HB10.out.size HB12.out)
                          have hwj : IntKind.i64.wrap (j + 1) = j + 1 := by rw [i64_left, wrap64_in _ (by omega)]
                          clear hz hz' hd HD HG
                          go_wp2
                          go_roundw
                          case rel => exact ⟨j + 1, by first | rw [hwj] | go_num, by omega, by omega, HALL', HBB⟩
                          case measure => (simp [intOf]; try omega)
                    · have hj : j = (n5 : Int) := by omega
                      exfalso
                      refine means_end SA.out SB.out LA.out LB.out LQ.out fun i h0 h1 => ?_
                      rw [HNL.out] at h1 ⊢
                      exact HALL.out i h0 (by omega)
        · have LB := Aside0.mk hlb
          clear hlb
          go_wp2_with (first
            | (go_at_call 13; go_must (refine (awake_calls _).mono ?_; rintro e w9 ⟨rfl, hb⟩; have HBN := Aside0.mk (below_then HBL.out HBL.out.size hb); clear hb HBL; have HBL := HBN; clear HBN))
            | (have hg := HX3; clear hg; go_at_call 19; go_must (refine (little_calls _ b (Nat.lt_succ_self _) B c' _ (LvS.all (HB.out.stay HBL.out))).mono ?_; rintro e w4 ⟨rfl, hb⟩; rw [LB.out]; have HBN := Aside0.mk (below_then HBL.out HBL.out.size hb); have HX4 := Aside0.mk (blk_below HX3.out hb); have HY4 := Aside0.mk (blk_below HY3.out hb); clear hb HBL; have HBL := HBN; clear HBN))
            | (have hg := HX2; clear hg; go_at_call 19; go_must (refine (little_calls _ a (Nat.lt_succ_self _) A c _ (LvS.all (HA.out.stay HBL.out))).mono ?_; rintro e w3 ⟨rfl, hb⟩; rw [LA.out]; have HBN := Aside0.mk (below_then HBL.out HBL.out.size hb); have HX3 := Aside0.mk (blk_below HX2.out hb); have HY3 := Aside0.mk (blk_below HY2.out hb); obtain ⟨p0, p1, p2, -, -, -⟩ := row3 HY3.out; clear hb HBL; have HBL := HBN; clear HBN))
            | (have hg := HX1; clear hg; go_at_call 16; go_must (refine (refSound_calls B c' b _ (LvS.all (HB.out.stay HBL.out))).mono ?_; rintro e w2 ⟨rfl, hb⟩; rw [SB.out]; have HBN := Aside0.mk (below_then HBL.out HBL.out.size hb); have HX2 := Aside0.mk (blk_below HX1.out hb); have HY2 := Aside0.mk (blk_below HY1.out hb); obtain ⟨p0, p1, p2, -, -, -⟩ := row3 HX2.out; clear hb HBL; have HBL := HBN; clear HBN))
            | (go_at_call 16; go_must (refine (refSound_calls A c a _ (LvS.all (HA.out.stay HBL.out))).mono ?_; rintro e w1 ⟨rfl, hb⟩; rw [SA.out]; have HBN := Aside0.mk (below_then HBL.out HBL.out.size hb); have HX1 := Aside0.mk (blk_below HX.out hb); have HY1 := Aside0.mk (blk_below HY.out hb); obtain ⟨p0, p1, p2, -, -, -⟩ := row3 HY1.out; clear hb HBL; have HBL := HBN; clear HBN)))
          go_ret
          exact ⟨rfl, HBL.out⟩
      · have LA := Aside0.mk hla
        clear hla
        go_wp2_with (first
          | (go_at_call 13; go_must (refine (awake_calls _).mono ?_; rintro e w9 ⟨rfl, hb⟩; have HBN := Aside0.mk (below_then HBL.out HBL.out.size hb); clear hb HBL; have HBL := HBN; clear HBN))
          | (have hg := HX2; clear hg; go_at_call 19; go_must (refine (little_calls _ a (Nat.lt_succ_self _) A c _ (LvS.all (HA.out.stay HBL.out))).mono ?_; rintro e w3 ⟨rfl, hb⟩; rw [LA.out]; have HBN := Aside0.mk (below_then HBL.out HBL.out.size hb); have HX3 := Aside0.mk (blk_below HX2.out hb); have HY3 := Aside0.mk (blk_below HY2.out hb); obtain ⟨p0, p1, p2, -, -, -⟩ := row3 HY3.out; clear hb HBL; have HBL := HBN; clear HBN))
          | (have hg := HX1; clear hg; go_at_call 16; go_must (refine (refSound_calls B c' b _ (LvS.all (HB.out.stay HBL.out))).mono ?_; rintro e w2 ⟨rfl, hb⟩; rw [SB.out]; have HBN := Aside0.mk (below_then HBL.out HBL.out.size hb); have HX2 := Aside0.mk (blk_below HX1.out hb); have HY2 := Aside0.mk (blk_below HY1.out hb); obtain ⟨p0, p1, p2, -, -, -⟩ := row3 HX2.out; clear hb HBL; have HBL := HBN; clear HBN))
          | (go_at_call 16; go_must (refine (refSound_calls A c a _ (LvS.all (HA.out.stay HBL.out))).mono ?_; rintro e w1 ⟨rfl, hb⟩; rw [SA.out]; have HBN := Aside0.mk (below_then HBL.out HBL.out.size hb); have HX1 := Aside0.mk (blk_below HX.out hb); have HY1 := Aside0.mk (blk_below HY.out hb); obtain ⟨p0, p1, p2, -, -, -⟩ := row3 HY1.out; clear hb HBL; have HBL := HBN; clear HBN)))
        go_ret
        exact ⟨rfl, HBL.out⟩
    · have SB := Aside0.mk hsb
      clear hsb
      go_wp2_with (first
        | (go_at_call 13; go_must (refine (awake_calls _).mono ?_; rintro e w9 ⟨rfl, hb⟩; have HBN := Aside0.mk (below_then HBL.out HBL.out.size hb); clear hb HBL; have HBL := HBN; clear HBN))
        | (have hg := HX1; clear hg; go_at_call 16; go_must (refine (refSound_calls B c' b _ (LvS.all (HB.out.stay HBL.out))).mono ?_; rintro e w2 ⟨rfl, hb⟩; rw [SB.out]; have HBN := Aside0.mk (below_then HBL.out HBL.out.size hb); have HX2 := Aside0.mk (blk_below HX1.out hb); have HY2 := Aside0.mk (blk_below HY1.out hb); obtain ⟨p0, p1, p2, -, -, -⟩ := row3 HX2.out; clear hb HBL; have HBL := HBN; clear HBN))
        | (go_at_call 16; go_must (refine (refSound_calls A c a _ (LvS.all (HA.out.stay HBL.out))).mono ?_; rintro e w1 ⟨rfl, hb⟩; rw [SA.out]; have HBN := Aside0.mk (below_then HBL.out HBL.out.size hb); have HX1 := Aside0.mk (blk_below HX.out hb); have HY1 := Aside0.mk (blk_below HY.out hb); obtain ⟨p0, p1, p2, -, -, -⟩ := row3 HY1.out; clear hb HBL; have HBL := HBN; clear HBN)))
      go_ret
      exact ⟨rfl, HBL.out⟩
  · have SA := Aside0.mk hsa
    clear hsa
    go_wp2_with (first
      | (go_at_call 13; go_must (refine (awake_calls _).mono ?_; rintro e w9 ⟨rfl, hb⟩; have HBN := Aside0.mk (below_then HBL.out HBL.out.size hb); clear hb HBL; have HBL := HBN; clear HBN))
      | (go_at_call 16; go_must (refine (refSound_calls A c a _ (LvS.all (HA.out.stay HBL.out))).mono ?_; rintro e w1 ⟨rfl, hb⟩; rw [SA.out]; have HBN := Aside0.mk (below_then HBL.out HBL.out.size hb); have HX1 := Aside0.mk (blk_below HX.out hb); have HY1 := Aside0.mk (blk_below HY.out hb); obtain ⟨p0, p1, p2, -, -, -⟩ := row3 HY1.out; clear hb HBL; have HBL := HBN; clear HBN)))
    go_ret
    exact ⟨rfl, HBL.out⟩
end Go.Proofs.Ytjlhbaohippidaa

/-! LvIn -/
namespace Go.Proofs.Ytjlhbaohippidaa
open Go.RowKit Go.Proofs.YtjlhbaohippidaaW.PrintWords Go.RegionInvYtjlhbaohippidaa Go.ChangeShapes Go.WideShapes Go.Deep

instance : Inhabited Lv := ⟨.mk 0 0 []⟩
theorem lv_open {H : Type} {enc : TypeId × Value → H} {W : World} {base : Nat} {sp : Nat → Bool} {held : Bool} (F : Nat) : ∀ (fuel : Nat), fuel ≤ F → ∀ (cs : List Value) (x : DataW H × List MemPlace),
    DataW.trod enc Try.prog W base sp held fuel 24 cs = some x → ∃ (l : Lv) (A : Option Addr) (c : Nat), cs = [.int .i64 l.kind, .int .i64 l.num, .slice A l.kids.length c] ∧ LvS W (fun _ => True) A c l ∧ (Lit.int .i64 l.kind).wf = true ∧ (Lit.int .i64 l.num).wf = true := by
  induction F with
  | zero =>
    intro fuel hF cs x h
    obtain ⟨xs, n, hn, _⟩ := DataW.trod_struct Try.underlying24 h
    omega
  | succ F ih =>
    intro fuel hF cs x h
    obtain ⟨xs, n, hn, hx, hl, hxl, hf⟩ := DataW.trod_struct Try.underlying24 h
    have hl3 : cs.length = 3 := by rw [hl]; kernel_rfl
    match xs, hxl, cs, hl3 with
    | [y0, y1, y2], _, [v0, v1, v2], _ =>
      have g0 : DataW.trod enc Try.prog W base sp held n 3 [v0] = some y0 := hf 0 _ rfl
      have g1 : DataW.trod enc Try.prog W base sp held n 3 [v1] = some y1 := hf 1 _ rfl
      have g2 : DataW.trod enc Try.prog W base sp held n 22 [v2] = some y2 := hf 2 _ rfl
      obtain ⟨k, e0, _, w0⟩ := DataW.trod_int Try.underlying3 g0
      obtain ⟨m, e1, _, w1⟩ := DataW.trod_int Try.underlying3 g1
      obtain rfl : v0 = .int .i64 k := by simpa using e0
      obtain rfl : v1 = .int .i64 m := by simpa using e1
      rcases DataW.trod_slice Try.underlying22 g2 with ⟨e2, _⟩ | ⟨a, len, cap, elems, rest, n', hn', e2, _, _, hle, hm, hlen, hel, _, _⟩
      · obtain rfl : v2 = .slice none 0 0 := by simpa using e2
        exact ⟨.mk k m [], none, 0, rfl, .mk (fun _ => none) (fun _ => 0) (by simp) (by omega) (fun i x hx => by simp at hx) (fun i x hx => by simp at hx), w0, w1⟩
      · obtain rfl : v2 = .slice (some a) len cap := by simpa using e2
        have hc3 : Try.prog.cellsOf 24 = 3 := by kernel_rfl
        rw [hc3] at hel
        have each : ∀ i, i < len → ∃ q : Lv × Option Addr × Nat, W.cells? base (a.add (i * 3)) 3 = some [.int .i64 q.1.kind, .int .i64 q.1.num, .slice q.2.1 q.1.kids.length q.2.2] ∧ LvS W (fun _ => True) q.2.1 q.2.2 q.1 := by
          intro i hi
          have hq := hel i hi
          rw [List.getElem?_eq_getElem (by omega)] at hq
          obtain ⟨cs', h1, h2⟩ := Option.bind_eq_some_iff.1 hq
          obtain ⟨l, A, c, rfl, h3, _⟩ := ih n' (by omega) cs' _ h2
          exact ⟨(l, A, c), h1, h3⟩
        obtain ⟨q, hq⟩ := choose_lt each
        have hcell : ∀ i, i < len → ∀ j, j < 3 → W.cell? ((a.add (i * 3)).add j) = ([.int .i64 (q i).1.kind, .int .i64 (q i).1.num, .slice (q i).2.1 (q i).1.kids.length (q i).2.2] : List Value)[j]? := fun i hi j hj => (World.cells?_some (hq i hi).1).2.2 j hj
        have hget : ∀ (i : Nat) (x : Lv), ((List.range len).map fun i => (q i).1)[i]? = some x → i < len ∧ x = (q i).1 := by
          intro i x hx
          have hi : i < len := by
            rcases Nat.lt_or_ge i len with h | h
            · exact h
            · rw [List.getElem?_eq_none (by simpa using h)] at hx; cases hx
          rw [List.getElem?_map, List.getElem?_range hi] at hx
          exact ⟨hi, (Option.some.inj hx).symm⟩
        refine ⟨.mk k m ((List.range len).map fun i => (q i).1), some a, cap, by simp [Lv.kind, Lv.num, Lv.kids], .mk (fun i => (q i).2.1) (fun i => (q i).2.2) (by simpa using hle) (by simp only [maxLen] at hm; omega) (fun i x hx => ?_) (fun i x hx => ?_), w0, w1⟩
        · obtain ⟨hi, rfl⟩ := hget i x hx
          have hsp : a.spot = none := by
            have h0 := hcell 0 (by omega) 0 (by omega)
            simp only [Nat.zero_mul, Addr.add, if_true] at h0
            cases hs : a.spot with
            | none => rfl
            | some z => simp [World.cell?, hs] at h0; split at h0 <;> simp at h0
          obtain ⟨b, o, z⟩ := a
          obtain rfl : z = none := hsp
          have c0 := hcell i hi 0 (by omega)
          have c1 := hcell i hi 1 (by omega)
          have c2 := hcell i hi 2 (by omega)
          simp only [add_flat] at c0 c1 c2
          exact ⟨_, rfl, trivial, rfl, by rw [add_flat]; exact c0, by rw [add_flat]; exact c1, by rw [add_flat]; exact c2⟩
        · obtain ⟨hi, rfl⟩ := hget i x hx
          exact (hq i hi).2
theorem lv_in {H : Type} {enc : TypeId × Value → H} {W : World} {base : Nat} {sp : Nat → Bool} {held : Bool} {v : Value} {d : DataW H} {ps : List MemPlace} {r : Reach} {b0 : Nat} (hv : Value.okWide Try.prog W r b0 24 v) (h : DataW.Trod enc Try.prog W base sp held 24 v d ps) :
    ∃ (l : Lv) (A : Option Addr) (c : Nat), v = lvV A c l ∧ LvS W (fun _ => True) A c l ∧ (Lit.int .i64 l.kind).wf = true ∧ (Lit.int .i64 l.num).wf = true := by
  obtain ⟨cs, rfl, hcs⟩ := okWide_struct Try.underlying24 hv
  obtain ⟨fuel, hf⟩ := h
  obtain ⟨l, A, c, he, hl, hk, hn⟩ := lv_open fuel fuel (Nat.le_refl _) _ _ hf
  refine ⟨l, A, c, ?_, hl, hk, hn⟩
  unfold lvV
  congr 1
  apply Array.toList_inj.1
  simpa [Value.cells] using he
end Go.Proofs.Ytjlhbaohippidaa
