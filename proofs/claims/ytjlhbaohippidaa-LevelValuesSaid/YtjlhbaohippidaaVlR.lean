/-
  The two regions of the reference's value that call it.
-/
import Derived.Test.YtjlhbaohippidaaOpsV
import Derived.Test.YtjlhbaohippidaaVal
namespace Go.Proofs.Ytjlhbaohippidaa
open Go.RowKit Go.Proofs.YtjlhbaohippidaaW.PrintWords Go.RegionInvYtjlhbaohippidaa Go.RegionEYtjlhbaohippidaa
set_option linter.unusedVariables false

def vl9_ops : List Oper := [
  { dst := some 27, op := Go.Op.fieldAddr 24 (Go.Operand.tmp 2) 2, type := 0, pos := "ref.go:233", after := #[], guard := none },
  { dst := some 28, op := Go.Op.load 22 (Go.Operand.tmp 27), type := 22, pos := "ref.go:233", after := #[{ on := 0, ground := Go.Ground.data }], guard := none },
  { dst := some 29, op := Go.Op.indexAddr 22 (Go.Operand.tmp 28) (Go.Operand.const (Go.Value.int Go.IntKind.i64 0)), type := 0, pos := "ref.go:233", after := #[{ on := 1, ground := Go.Ground.data }], guard := none },
  { dst := some 30, op := Go.Op.load 24 (Go.Operand.tmp 29), type := 24, pos := "ref.go:233", after := #[{ on := 2, ground := Go.Ground.data }], guard := none },
  { dst := some 31, op := Go.Op.move (Go.Operand.tmp 1), type := 29, pos := "ref.go:233", after := #[], guard := none },
  { dst := some 32, op := Go.Op.call { callee := Go.Callee.value (Go.Operand.func 35), args := #[Go.Operand.tmp 30, Go.Operand.tmp 31], argTypes := #[24, 29] }, type := 3, pos := "ref.go:233", after := #[{ on := 3, ground := Go.Ground.data }, { on := 4, ground := Go.Ground.data }], guard := none },
  { dst := some 33, op := Go.Op.fieldAddr 24 (Go.Operand.tmp 2) 1, type := 0, pos := "ref.go:233", after := #[], guard := none },
  { dst := some 34, op := Go.Op.load 3 (Go.Operand.tmp 33), type := 3, pos := "ref.go:233", after := #[{ on := 6, ground := Go.Ground.data }], guard := none },
  { dst := some 35, op := Go.Op.binOp Go.BinOp.add 3 (Go.Operand.tmp 32) (Go.Operand.tmp 34) 3, type := 3, pos := "ref.go:233", after := #[{ on := 5, ground := Go.Ground.data }, { on := 7, ground := Go.Ground.data }], guard := none },
  { dst := some 36, op := Go.Op.call { callee := Go.Callee.builtin Go.Builtin.min, args := #[Go.Operand.tmp 35, Go.Operand.const (Go.Value.int Go.IntKind.i64 1099511627776)], argTypes := #[3, 3] }, type := 3, pos := "ref.go:233", after := #[{ on := 8, ground := Go.Ground.data }], guard := none },
  { dst := some 4, op := Go.Op.assign (Go.Operand.tmp 36), type := 3, pos := "ref.go:233", after := #[{ on := 9, ground := Go.Ground.data }, { on := 5, ground := Go.Ground.chain }, { on := 0, ground := Go.Ground.phase }, { on := 1, ground := Go.Ground.phase }, { on := 2, ground := Go.Ground.phase }, { on := 3, ground := Go.Ground.phase }, { on := 4, ground := Go.Ground.phase }, { on := 5, ground := Go.Ground.phase }, { on := 6, ground := Go.Ground.phase }, { on := 7, ground := Go.Ground.phase }, { on := 8, ground := Go.Ground.phase }, { on := 9, ground := Go.Ground.phase }], guard := none }]
def vl9_F (w0 : World) (b : Nat) (k n : Int) (gb off c : Nat) (Av : Option Addr) (nv cv : Nat) (xk0 xn0 : Int) (A0 : Option Addr) (m0 c0 : Nat) (r0 : Int)  : Nat → (Nat → Value) → Value → World → (Nat → Prop) → Prop := fun rix => match rix with
  | 0 => fun _ v _ _ => v = .pointer (some ⟨b, 2, none⟩)
  | 1 => fun _ v _ _ => v = .slice (some ⟨gb, off, none⟩) 1 c
  | 2 => fun _ v _ _ => v = .pointer (some ⟨gb, off, none⟩)
  | 3 => fun _ v _ _ => v = .agg #[.int .i64 xk0, .int .i64 xn0, .slice A0 m0 c0]
  | 4 => fun _ v _ _ => v = .slice Av nv cv
  | 5 => fun _ v _ _ => v = .int .i64 r0
  | 6 => fun _ v _ _ => v = .pointer (some ⟨b, 1, none⟩)
  | 7 => fun _ v _ _ => v = .int .i64 n
  | 8 => fun _ v _ _ => v = .int .i64 (r0 + n)
  | 9 => fun _ v _ _ => v = .int .i64 (min (r0 + n) 1099511627776)
  | 10 => fun _ v _ _ => v = .int .i64 (min (r0 + n) 1099511627776)
  | _ => fun _ _ _ _ => True
def vl9_C : Nat → List Nat := fun rix => match rix with
  | _ => []
theorem vl9_nw1 : nwB vl9_ops.toArray 1 = true := by kernel_rfl
theorem vl9_nw2 : nwB vl9_ops.toArray 2 = true := by kernel_rfl
set_option maxRecDepth 100000 in
set_option maxHeartbeats 8000000 in
theorem vl9_obs (w0 : World) (b : Nat) (k n : Int) (gb off c : Nat) (Av : Option Addr) (nv cv : Nat) (xk0 xn0 : Int) (A0 : Option Addr) (m0 c0 : Nat) (r0 : Int)  (hx2 : w0.heap[b]? = some (.cells #[.int .i64 k, .int .i64 n, .slice (some ⟨gb, off, none⟩) 1 c] 24 (0, 0))) (hgb : gb < b) (hc0 : w0.cell? ⟨gb, off, none⟩ = some (.int .i64 xk0)) (hc1 : w0.cell? ⟨gb, off + 1, none⟩ = some (.int .i64 xn0)) (hc2 : w0.cell? ⟨gb, off + 2, none⟩ = some (.slice A0 m0 c0)) (hof0 : ∀ w, (∀ k, k < b → w.heap[k]? = w0.heap[k]?) → w0.heap.size ≤ w.heap.size → Calls Try.prog 35 #[.agg #[.int .i64 xk0, .int .i64 xn0, .slice A0 m0 c0], .slice Av nv cv] w fun e w' => e = .returned (.int .i64 r0) ∧ Below w.heap.size w w') (hwr : IntKind.i64.wrap (r0 + n) = r0 + n) (Q : Exit → Act → World → Prop) (a0 : Act) (hi1 : a0.tmps.getD 1 undef = .slice Av nv cv) (hi2 : a0.tmps.getD 2 undef = .pointer (some ⟨b, 0, none⟩)) :
    ObsE Try.prog vl9_ops.toArray Q (est2 0 0 (fun _ => False) (fun _ => False)) vl9_C (vl9_F w0 b k n gb off c Av nv cv xk0 xn0 A0 m0 c0 r0 ) a0 w0 vl9_ops.toArray.toList 0 := by
  have nw1 := vl9_nw1
  have nw2 := vl9_nw2
  refine ⟨?_, ?_, ?_, ?_, ?_, ?_, ?_, ?_, ?_, ?_, ?_, trivial⟩
  · refine ⟨⟨fun τ => stableE_det _, leans_not⟩, ?_⟩
    intro a w O hk
    have e2 : a.eval (.tmp 2) = .pointer (some ⟨b, 0, none⟩) := (hk.init 2 (initialB_of_nw nw2)).trans hi2
    exact obE_run (wanted_none rfl) (by unfold execOp; simp only []; rw [e2]; go_simp) rfl
  · refine ⟨⟨fun τ => stableE_det _, leans_not⟩, ?_⟩
    intro a w O hk
    have e27 : a.eval (.tmp 27) = .pointer (some ⟨b, 2, none⟩) := hk.fact 0 _ 27 rfl rfl rfl rfl
    have x2 := hk.world.still hx2 (fun ⟨_, h⟩ => h.elim And.right And.right)
    obtain ⟨p0, p1, p2, -, -, -⟩ := row3 x2
    have hfx : ∀ k, k < b → w.heap[k]? = w0.heap[k]? := fun k hkb => hk.fix k (est2_fix (by have := blk_lt hx2; omega) (fun h => h) (fun h => h))
    have hcc : ∀ j, w.cell? ⟨gb, j, none⟩ = w0.cell? ⟨gb, j, none⟩ := fun j => cell_same (hfx _ hgb)
    have q0 := (hcc _).trans hc0
    have q1 := (hcc _).trans hc1
    have q2 := (hcc _).trans hc2
    exact obE_run (wanted_none rfl) (by unfold execOp; simp only []; rw [e27]; go_simp) rfl
  · refine ⟨⟨fun τ => stableE_det _, leans_not⟩, ?_⟩
    intro a w O hk
    have e28 : a.eval (.tmp 28) = .slice (some ⟨gb, off, none⟩) 1 c := hk.fact 1 _ 28 rfl rfl rfl rfl
    have x2 := hk.world.still hx2 (fun ⟨_, h⟩ => h.elim And.right And.right)
    obtain ⟨p0, p1, p2, -, -, -⟩ := row3 x2
    have hfx : ∀ k, k < b → w.heap[k]? = w0.heap[k]? := fun k hkb => hk.fix k (est2_fix (by have := blk_lt hx2; omega) (fun h => h) (fun h => h))
    have hcc : ∀ j, w.cell? ⟨gb, j, none⟩ = w0.cell? ⟨gb, j, none⟩ := fun j => cell_same (hfx _ hgb)
    have q0 := (hcc _).trans hc0
    have q1 := (hcc _).trans hc1
    have q2 := (hcc _).trans hc2
    exact obE_run (wanted_none rfl) (by unfold execOp; simp only []; rw [e28]; go_simp) rfl
  · refine ⟨⟨fun τ => stableE_det _, leans_not⟩, ?_⟩
    intro a w O hk
    have e29 : a.eval (.tmp 29) = .pointer (some ⟨gb, off, none⟩) := hk.fact 2 _ 29 rfl rfl rfl rfl
    have x2 := hk.world.still hx2 (fun ⟨_, h⟩ => h.elim And.right And.right)
    obtain ⟨p0, p1, p2, -, -, -⟩ := row3 x2
    have hfx : ∀ k, k < b → w.heap[k]? = w0.heap[k]? := fun k hkb => hk.fix k (est2_fix (by have := blk_lt hx2; omega) (fun h => h) (fun h => h))
    have hcc : ∀ j, w.cell? ⟨gb, j, none⟩ = w0.cell? ⟨gb, j, none⟩ := fun j => cell_same (hfx _ hgb)
    have q0 := (hcc _).trans hc0
    have q1 := (hcc _).trans hc1
    have q2 := (hcc _).trans hc2
    exact obE_run (wanted_none rfl) (by unfold execOp; simp only []; rw [e29]; go_simp) rfl
  · refine ⟨⟨fun τ => stableE_det _, leans_not⟩, ?_⟩
    intro a w O hk
    have e1 : a.eval (.tmp 1) = .slice Av nv cv := (hk.init 1 (initialB_of_nw nw1)).trans hi1
    exact toE (ob_move rfl e1 (wanted_none rfl) rfl)
  · refine ⟨⟨fun τ => stableE_det _, leans_not⟩, ?_⟩
    intro a w O hk
    have e30 : a.eval (.tmp 30) = .agg #[.int .i64 xk0, .int .i64 xn0, .slice A0 m0 c0] := hk.fact 3 _ 30 rfl rfl rfl rfl
    have e31 : a.eval (.tmp 31) = .slice Av nv cv := hk.fact 4 _ 31 rfl rfl rfl rfl
    have x2 := hk.world.still hx2 (fun ⟨_, h⟩ => h.elim And.right And.right)
    obtain ⟨p0, p1, p2, -, -, -⟩ := row3 x2
    have hfx : ∀ k, k < b → w.heap[k]? = w0.heap[k]? := fun k hkb => hk.fix k (est2_fix (by have := blk_lt hx2; omega) (fun h => h) (fun h => h))
    have hcc : ∀ j, w.cell? ⟨gb, j, none⟩ = w0.cell? ⟨gb, j, none⟩ := fun j => cell_same (hfx _ hgb)
    have q0 := (hcc _).trans hc0
    have q1 := (hcc _).trans hc1
    have q2 := (hcc _).trans hc2
    exact obE_callV #[.agg #[.int .i64 xk0, .int .i64 xn0, .slice A0 m0 c0], .slice Av nv cv] rfl rfl rfl rfl (by simp only [List.map_cons, List.map_nil]; rw [e30, e31]) (wanted_none rfl) (hof0 w hfx hk.world.size)
  · refine ⟨⟨fun τ => stableE_det _, leans_not⟩, ?_⟩
    intro a w O hk
    have e2 : a.eval (.tmp 2) = .pointer (some ⟨b, 0, none⟩) := (hk.init 2 (initialB_of_nw nw2)).trans hi2
    exact obE_run (wanted_none rfl) (by unfold execOp; simp only []; rw [e2]; go_simp) rfl
  · refine ⟨⟨fun τ => stableE_det _, leans_not⟩, ?_⟩
    intro a w O hk
    have e33 : a.eval (.tmp 33) = .pointer (some ⟨b, 1, none⟩) := hk.fact 6 _ 33 rfl rfl rfl rfl
    have x2 := hk.world.still hx2 (fun ⟨_, h⟩ => h.elim And.right And.right)
    obtain ⟨p0, p1, p2, -, -, -⟩ := row3 x2
    have hfx : ∀ k, k < b → w.heap[k]? = w0.heap[k]? := fun k hkb => hk.fix k (est2_fix (by have := blk_lt hx2; omega) (fun h => h) (fun h => h))
    have hcc : ∀ j, w.cell? ⟨gb, j, none⟩ = w0.cell? ⟨gb, j, none⟩ := fun j => cell_same (hfx _ hgb)
    have q0 := (hcc _).trans hc0
    have q1 := (hcc _).trans hc1
    have q2 := (hcc _).trans hc2
    exact obE_run (wanted_none rfl) (by unfold execOp; simp only []; rw [e33]; go_simp) rfl
  · refine ⟨⟨fun τ => stableE_det _, leans_not⟩, ?_⟩
    intro a w O hk
    have e32 : a.eval (.tmp 32) = .int .i64 r0 := hk.fact 5 _ 32 rfl rfl rfl rfl
    have e34 : a.eval (.tmp 34) = .int .i64 n := hk.fact 7 _ 34 rfl rfl rfl rfl
    have x2 := hk.world.still hx2 (fun ⟨_, h⟩ => h.elim And.right And.right)
    obtain ⟨p0, p1, p2, -, -, -⟩ := row3 x2
    have hfx : ∀ k, k < b → w.heap[k]? = w0.heap[k]? := fun k hkb => hk.fix k (est2_fix (by have := blk_lt hx2; omega) (fun h => h) (fun h => h))
    have hcc : ∀ j, w.cell? ⟨gb, j, none⟩ = w0.cell? ⟨gb, j, none⟩ := fun j => cell_same (hfx _ hgb)
    have q0 := (hcc _).trans hc0
    have q1 := (hcc _).trans hc1
    have q2 := (hcc _).trans hc2
    exact obE_run (wanted_none rfl) (by unfold execOp; simp only []; rw [e32, e34]; go_simp) rfl
  · refine ⟨⟨fun τ => stableE_det _, leans_not⟩, ?_⟩
    intro a w O hk
    have e35 : a.eval (.tmp 35) = .int .i64 (r0 + n) := hk.fact 8 _ 35 rfl rfl rfl rfl
    exact obE_minInt rfl e35 rfl (wanted_none rfl) rfl
  · refine ⟨⟨fun τ => stableE_det _, leans_not⟩, ?_⟩
    intro a w O hk
    have e36 : a.eval (.tmp 36) = .int .i64 (min (r0 + n) 1099511627776) := hk.fact 9 _ 36 rfl rfl rfl rfl
    exact toE (ob_assign rfl e36 (wanted_none rfl) rfl)
set_option maxRecDepth 100000 in
set_option maxHeartbeats 8000000 in
theorem vl9_region {Q : Exit → Act → World → Prop} {id : Nat} (w0 : World) (b : Nat) (k n : Int) (gb off c : Nat) (Av : Option Addr) (nv cv : Nat) (xk0 xn0 : Int) (A0 : Option Addr) (m0 c0 : Nat) (r0 : Int)  {s0 s3 s4 s5 s6 s7 s8 s9 s10 s11 s12 s13 s14 s15 s16 s17 s18 s19 s20 s21 s22 s23 s24 s25 s26 s27 s28 s29 s30 s31 s32 s33 s34 s35 s36 s37 s38 s39 s40 s41 s42 s43 s44 s45 s46 s47 s48 s49 : Value} (hx2 : w0.heap[b]? = some (.cells #[.int .i64 k, .int .i64 n, .slice (some ⟨gb, off, none⟩) 1 c] 24 (0, 0))) (hgb : gb < b) (hc0 : w0.cell? ⟨gb, off, none⟩ = some (.int .i64 xk0)) (hc1 : w0.cell? ⟨gb, off + 1, none⟩ = some (.int .i64 xn0)) (hc2 : w0.cell? ⟨gb, off + 2, none⟩ = some (.slice A0 m0 c0)) (hof0 : ∀ w, (∀ k, k < b → w.heap[k]? = w0.heap[k]?) → w0.heap.size ≤ w.heap.size → Calls Try.prog 35 #[.agg #[.int .i64 xk0, .int .i64 xn0, .slice A0 m0 c0], .slice Av nv cv] w fun e w' => e = .returned (.int .i64 r0) ∧ Below w.heap.size w w') (hwr : IntKind.i64.wrap (r0 + n) = r0 + n)
    (hend : ∀ (w' : World), Chg (fun k => False ∨ False) w0 w' → Q .normal { tmps := (s0 :: (.slice Av nv cv : Value) :: (.pointer (some ⟨b, 0, none⟩) : Value) :: s3 :: (.int .i64 (min (r0 + n) 1099511627776) : Value) :: s5 :: s6 :: s7 :: s8 :: s9 :: s10 :: s11 :: s12 :: s13 :: s14 :: s15 :: s16 :: s17 :: s18 :: s19 :: s20 :: s21 :: s22 :: s23 :: s24 :: s25 :: s26 :: (.pointer (some ⟨b, 2, none⟩) : Value) :: (.slice (some ⟨gb, off, none⟩) 1 c : Value) :: (.pointer (some ⟨gb, off, none⟩) : Value) :: (.agg #[.int .i64 xk0, .int .i64 xn0, .slice A0 m0 c0] : Value) :: (.slice Av nv cv : Value) :: (.int .i64 r0 : Value) :: (.pointer (some ⟨b, 1, none⟩) : Value) :: (.int .i64 n : Value) :: (.int .i64 (r0 + n) : Value) :: (.int .i64 (min (r0 + n) 1099511627776) : Value) :: s37 :: s38 :: s39 :: s40 :: s41 :: s42 :: s43 :: s44 :: s45 :: s46 :: s47 :: s48 :: s49 :: ([] : List Value)).toArray, defers := [] } w') :
    (Code.region id vl9_ops.toArray true).wp Try.prog Q { tmps := (s0 :: (.slice Av nv cv : Value) :: (.pointer (some ⟨b, 0, none⟩) : Value) :: s3 :: s4 :: s5 :: s6 :: s7 :: s8 :: s9 :: s10 :: s11 :: s12 :: s13 :: s14 :: s15 :: s16 :: s17 :: s18 :: s19 :: s20 :: s21 :: s22 :: s23 :: s24 :: s25 :: s26 :: s27 :: s28 :: s29 :: s30 :: s31 :: s32 :: s33 :: s34 :: s35 :: s36 :: s37 :: s38 :: s39 :: s40 :: s41 :: s42 :: s43 :: s44 :: s45 :: s46 :: s47 :: s48 :: s49 :: ([] : List Value)).toArray, defers := [] } w0 := by
  refine wp_region_est (by kernel_rfl) (est2 0 0 (fun _ => False) (fun _ => False)) vl9_C (vl9_F w0 b k n gb off c Av nv cv xk0 xn0 A0 m0 c0 r0 ) (est2_dis (fun _ h _ => h)) (est2_range (fun _ h => h.elim) (fun _ h => h.elim)) (by rfl) (by kernel_rfl) (vl9_obs w0.drew b k n gb off c Av nv cv xk0 xn0 A0 m0 c0 r0  hx2 hgb hc0 hc1 hc2 hof0 hwr _ _ rfl rfl) ?_
  intro a w' O hd hs hb hf hf2 ha hsame
  have x0 : a.tmps.getD 0 undef = s0 := hsame 0 (nwB.spec (by kernel_rfl))
  have x1 : a.tmps.getD 1 undef = .slice Av nv cv := hsame 1 (nwB.spec (by kernel_rfl))
  have x2 : a.tmps.getD 2 undef = .pointer (some ⟨b, 0, none⟩) := hsame 2 (nwB.spec (by kernel_rfl))
  have x3 : a.tmps.getD 3 undef = s3 := hsame 3 (nwB.spec (by kernel_rfl))
  have x4 : a.tmps.getD 4 undef = .int .i64 (min (r0 + n) 1099511627776) := (hf 10 _ 4 rfl rfl (by decide)).1
  have x5 : a.tmps.getD 5 undef = s5 := hsame 5 (nwB.spec (by kernel_rfl))
  have x6 : a.tmps.getD 6 undef = s6 := hsame 6 (nwB.spec (by kernel_rfl))
  have x7 : a.tmps.getD 7 undef = s7 := hsame 7 (nwB.spec (by kernel_rfl))
  have x8 : a.tmps.getD 8 undef = s8 := hsame 8 (nwB.spec (by kernel_rfl))
  have x9 : a.tmps.getD 9 undef = s9 := hsame 9 (nwB.spec (by kernel_rfl))
  have x10 : a.tmps.getD 10 undef = s10 := hsame 10 (nwB.spec (by kernel_rfl))
  have x11 : a.tmps.getD 11 undef = s11 := hsame 11 (nwB.spec (by kernel_rfl))
  have x12 : a.tmps.getD 12 undef = s12 := hsame 12 (nwB.spec (by kernel_rfl))
  have x13 : a.tmps.getD 13 undef = s13 := hsame 13 (nwB.spec (by kernel_rfl))
  have x14 : a.tmps.getD 14 undef = s14 := hsame 14 (nwB.spec (by kernel_rfl))
  have x15 : a.tmps.getD 15 undef = s15 := hsame 15 (nwB.spec (by kernel_rfl))
  have x16 : a.tmps.getD 16 undef = s16 := hsame 16 (nwB.spec (by kernel_rfl))
  have x17 : a.tmps.getD 17 undef = s17 := hsame 17 (nwB.spec (by kernel_rfl))
  have x18 : a.tmps.getD 18 undef = s18 := hsame 18 (nwB.spec (by kernel_rfl))
  have x19 : a.tmps.getD 19 undef = s19 := hsame 19 (nwB.spec (by kernel_rfl))
  have x20 : a.tmps.getD 20 undef = s20 := hsame 20 (nwB.spec (by kernel_rfl))
  have x21 : a.tmps.getD 21 undef = s21 := hsame 21 (nwB.spec (by kernel_rfl))
  have x22 : a.tmps.getD 22 undef = s22 := hsame 22 (nwB.spec (by kernel_rfl))
  have x23 : a.tmps.getD 23 undef = s23 := hsame 23 (nwB.spec (by kernel_rfl))
  have x24 : a.tmps.getD 24 undef = s24 := hsame 24 (nwB.spec (by kernel_rfl))
  have x25 : a.tmps.getD 25 undef = s25 := hsame 25 (nwB.spec (by kernel_rfl))
  have x26 : a.tmps.getD 26 undef = s26 := hsame 26 (nwB.spec (by kernel_rfl))
  have x27 : a.tmps.getD 27 undef = .pointer (some ⟨b, 2, none⟩) := (hf 0 _ 27 rfl rfl (by decide)).1
  have x28 : a.tmps.getD 28 undef = .slice (some ⟨gb, off, none⟩) 1 c := (hf 1 _ 28 rfl rfl (by decide)).1
  have x29 : a.tmps.getD 29 undef = .pointer (some ⟨gb, off, none⟩) := (hf 2 _ 29 rfl rfl (by decide)).1
  have x30 : a.tmps.getD 30 undef = .agg #[.int .i64 xk0, .int .i64 xn0, .slice A0 m0 c0] := (hf 3 _ 30 rfl rfl (by decide)).1
  have x31 : a.tmps.getD 31 undef = .slice Av nv cv := (hf 4 _ 31 rfl rfl (by decide)).1
  have x32 : a.tmps.getD 32 undef = .int .i64 r0 := (hf 5 _ 32 rfl rfl (by decide)).1
  have x33 : a.tmps.getD 33 undef = .pointer (some ⟨b, 1, none⟩) := (hf 6 _ 33 rfl rfl (by decide)).1
  have x34 : a.tmps.getD 34 undef = .int .i64 n := (hf 7 _ 34 rfl rfl (by decide)).1
  have x35 : a.tmps.getD 35 undef = .int .i64 (r0 + n) := (hf 8 _ 35 rfl rfl (by decide)).1
  have x36 : a.tmps.getD 36 undef = .int .i64 (min (r0 + n) 1099511627776) := (hf 9 _ 36 rfl rfl (by decide)).1
  have x37 : a.tmps.getD 37 undef = s37 := hsame 37 (nwB.spec (by kernel_rfl))
  have x38 : a.tmps.getD 38 undef = s38 := hsame 38 (nwB.spec (by kernel_rfl))
  have x39 : a.tmps.getD 39 undef = s39 := hsame 39 (nwB.spec (by kernel_rfl))
  have x40 : a.tmps.getD 40 undef = s40 := hsame 40 (nwB.spec (by kernel_rfl))
  have x41 : a.tmps.getD 41 undef = s41 := hsame 41 (nwB.spec (by kernel_rfl))
  have x42 : a.tmps.getD 42 undef = s42 := hsame 42 (nwB.spec (by kernel_rfl))
  have x43 : a.tmps.getD 43 undef = s43 := hsame 43 (nwB.spec (by kernel_rfl))
  have x44 : a.tmps.getD 44 undef = s44 := hsame 44 (nwB.spec (by kernel_rfl))
  have x45 : a.tmps.getD 45 undef = s45 := hsame 45 (nwB.spec (by kernel_rfl))
  have x46 : a.tmps.getD 46 undef = s46 := hsame 46 (nwB.spec (by kernel_rfl))
  have x47 : a.tmps.getD 47 undef = s47 := hsame 47 (nwB.spec (by kernel_rfl))
  have x48 : a.tmps.getD 48 undef = s48 := hsame 48 (nwB.spec (by kernel_rfl))
  have x49 : a.tmps.getD 49 undef = s49 := hsame 49 (nwB.spec (by kernel_rfl))
  have hl : a.tmps = (s0 :: (.slice Av nv cv : Value) :: (.pointer (some ⟨b, 0, none⟩) : Value) :: s3 :: (.int .i64 (min (r0 + n) 1099511627776) : Value) :: s5 :: s6 :: s7 :: s8 :: s9 :: s10 :: s11 :: s12 :: s13 :: s14 :: s15 :: s16 :: s17 :: s18 :: s19 :: s20 :: s21 :: s22 :: s23 :: s24 :: s25 :: s26 :: (.pointer (some ⟨b, 2, none⟩) : Value) :: (.slice (some ⟨gb, off, none⟩) 1 c : Value) :: (.pointer (some ⟨gb, off, none⟩) : Value) :: (.agg #[.int .i64 xk0, .int .i64 xn0, .slice A0 m0 c0] : Value) :: (.slice Av nv cv : Value) :: (.int .i64 r0 : Value) :: (.pointer (some ⟨b, 1, none⟩) : Value) :: (.int .i64 n : Value) :: (.int .i64 (r0 + n) : Value) :: (.int .i64 (min (r0 + n) 1099511627776) : Value) :: s37 :: s38 :: s39 :: s40 :: s41 :: s42 :: s43 :: s44 :: s45 :: s46 :: s47 :: s48 :: s49 :: ([] : List Value)).toArray := by
    have h := lit a.tmps 50 hs
    have e : ((List.range 50).map (fun i => a.tmps.getD i undef)).toArray = ((a.tmps.getD 0 undef : Value) :: (a.tmps.getD 1 undef : Value) :: (a.tmps.getD 2 undef : Value) :: (a.tmps.getD 3 undef : Value) :: (a.tmps.getD 4 undef : Value) :: (a.tmps.getD 5 undef : Value) :: (a.tmps.getD 6 undef : Value) :: (a.tmps.getD 7 undef : Value) :: (a.tmps.getD 8 undef : Value) :: (a.tmps.getD 9 undef : Value) :: (a.tmps.getD 10 undef : Value) :: (a.tmps.getD 11 undef : Value) :: (a.tmps.getD 12 undef : Value) :: (a.tmps.getD 13 undef : Value) :: (a.tmps.getD 14 undef : Value) :: (a.tmps.getD 15 undef : Value) :: (a.tmps.getD 16 undef : Value) :: (a.tmps.getD 17 undef : Value) :: (a.tmps.getD 18 undef : Value) :: (a.tmps.getD 19 undef : Value) :: (a.tmps.getD 20 undef : Value) :: (a.tmps.getD 21 undef : Value) :: (a.tmps.getD 22 undef : Value) :: (a.tmps.getD 23 undef : Value) :: (a.tmps.getD 24 undef : Value) :: (a.tmps.getD 25 undef : Value) :: (a.tmps.getD 26 undef : Value) :: (a.tmps.getD 27 undef : Value) :: (a.tmps.getD 28 undef : Value) :: (a.tmps.getD 29 undef : Value) :: (a.tmps.getD 30 undef : Value) :: (a.tmps.getD 31 undef : Value) :: (a.tmps.getD 32 undef : Value) :: (a.tmps.getD 33 undef : Value) :: (a.tmps.getD 34 undef : Value) :: (a.tmps.getD 35 undef : Value) :: (a.tmps.getD 36 undef : Value) :: (a.tmps.getD 37 undef : Value) :: (a.tmps.getD 38 undef : Value) :: (a.tmps.getD 39 undef : Value) :: (a.tmps.getD 40 undef : Value) :: (a.tmps.getD 41 undef : Value) :: (a.tmps.getD 42 undef : Value) :: (a.tmps.getD 43 undef : Value) :: (a.tmps.getD 44 undef : Value) :: (a.tmps.getD 45 undef : Value) :: (a.tmps.getD 46 undef : Value) :: (a.tmps.getD 47 undef : Value) :: (a.tmps.getD 48 undef : Value) :: (a.tmps.getD 49 undef : Value) :: ([] : List Value)).toArray := rfl
    rw [e, x0, x1, x2, x3, x4, x5, x6, x7, x8, x9, x10, x11, x12, x13, x14, x15, x16, x17, x18, x19, x20, x21, x22, x23, x24, x25, x26, x27, x28, x29, x30, x31, x32, x33, x34, x35, x36, x37, x38, x39, x40, x41, x42, x43, x44, x45, x46, x47, x48, x49] at h
    exact h
  obtain ⟨tmps, defers⟩ := a
  obtain rfl : defers = [] := hd
  have hl' : tmps = _ := hl
  rw [hl']
  have hb' := est2_chg hb
  exact hend w' ⟨hb'.os, hb'.tape, hb'.output, hb'.size, hb'.block⟩

def vl10_ops : List Oper := [
  { dst := some 37, op := Go.Op.fieldAddr 24 (Go.Operand.tmp 2) 2, type := 0, pos := "ref.go:235", after := #[], guard := none },
  { dst := some 38, op := Go.Op.load 22 (Go.Operand.tmp 37), type := 22, pos := "ref.go:235", after := #[{ on := 0, ground := Go.Ground.data }], guard := none },
  { dst := some 39, op := Go.Op.indexAddr 22 (Go.Operand.tmp 38) (Go.Operand.const (Go.Value.int Go.IntKind.i64 0)), type := 0, pos := "ref.go:235", after := #[{ on := 1, ground := Go.Ground.data }], guard := none },
  { dst := some 40, op := Go.Op.load 24 (Go.Operand.tmp 39), type := 24, pos := "ref.go:235", after := #[{ on := 2, ground := Go.Ground.data }], guard := none },
  { dst := some 41, op := Go.Op.move (Go.Operand.tmp 1), type := 29, pos := "ref.go:235", after := #[], guard := none },
  { dst := some 42, op := Go.Op.call { callee := Go.Callee.value (Go.Operand.func 35), args := #[Go.Operand.tmp 40, Go.Operand.tmp 41], argTypes := #[24, 29] }, type := 3, pos := "ref.go:235", after := #[{ on := 3, ground := Go.Ground.data }, { on := 4, ground := Go.Ground.data }], guard := none },
  { dst := some 43, op := Go.Op.fieldAddr 24 (Go.Operand.tmp 2) 2, type := 0, pos := "ref.go:235", after := #[], guard := none },
  { dst := some 44, op := Go.Op.load 22 (Go.Operand.tmp 43), type := 22, pos := "ref.go:235", after := #[{ on := 6, ground := Go.Ground.data }], guard := none },
  { dst := some 45, op := Go.Op.indexAddr 22 (Go.Operand.tmp 44) (Go.Operand.const (Go.Value.int Go.IntKind.i64 1)), type := 0, pos := "ref.go:235", after := #[{ on := 7, ground := Go.Ground.data }], guard := none },
  { dst := some 46, op := Go.Op.load 24 (Go.Operand.tmp 45), type := 24, pos := "ref.go:235", after := #[{ on := 8, ground := Go.Ground.data }], guard := none },
  { dst := some 47, op := Go.Op.move (Go.Operand.tmp 1), type := 29, pos := "ref.go:235", after := #[], guard := none },
  { dst := some 48, op := Go.Op.call { callee := Go.Callee.value (Go.Operand.func 35), args := #[Go.Operand.tmp 46, Go.Operand.tmp 47], argTypes := #[24, 29] }, type := 3, pos := "ref.go:235", after := #[{ on := 9, ground := Go.Ground.data }, { on := 10, ground := Go.Ground.data }, { on := 5, ground := Go.Ground.chain }], guard := none },
  { dst := some 49, op := Go.Op.call { callee := Go.Callee.builtin Go.Builtin.max, args := #[Go.Operand.tmp 42, Go.Operand.tmp 48], argTypes := #[3, 3] }, type := 3, pos := "ref.go:235", after := #[{ on := 5, ground := Go.Ground.data }, { on := 11, ground := Go.Ground.data }], guard := none },
  { dst := some 4, op := Go.Op.assign (Go.Operand.tmp 49), type := 3, pos := "ref.go:235", after := #[{ on := 12, ground := Go.Ground.data }, { on := 11, ground := Go.Ground.chain }, { on := 0, ground := Go.Ground.phase }, { on := 1, ground := Go.Ground.phase }, { on := 2, ground := Go.Ground.phase }, { on := 3, ground := Go.Ground.phase }, { on := 4, ground := Go.Ground.phase }, { on := 5, ground := Go.Ground.phase }, { on := 6, ground := Go.Ground.phase }, { on := 7, ground := Go.Ground.phase }, { on := 8, ground := Go.Ground.phase }, { on := 9, ground := Go.Ground.phase }, { on := 10, ground := Go.Ground.phase }, { on := 11, ground := Go.Ground.phase }, { on := 12, ground := Go.Ground.phase }], guard := none }]
def vl10_F (w0 : World) (b : Nat) (k n : Int) (gb off c : Nat) (Av : Option Addr) (nv cv : Nat) (xk0 xn0 : Int) (A0 : Option Addr) (m0 c0 : Nat) (r0 : Int) (xk1 xn1 : Int) (A1 : Option Addr) (m1 c1 : Nat) (r1 : Int)  : Nat → (Nat → Value) → Value → World → (Nat → Prop) → Prop := fun rix => match rix with
  | 0 => fun _ v _ _ => v = .pointer (some ⟨b, 2, none⟩)
  | 1 => fun _ v _ _ => v = .slice (some ⟨gb, off, none⟩) 2 c
  | 2 => fun _ v _ _ => v = .pointer (some ⟨gb, off, none⟩)
  | 3 => fun _ v _ _ => v = .agg #[.int .i64 xk0, .int .i64 xn0, .slice A0 m0 c0]
  | 4 => fun _ v _ _ => v = .slice Av nv cv
  | 5 => fun _ v _ _ => v = .int .i64 r0
  | 6 => fun _ v _ _ => v = .pointer (some ⟨b, 2, none⟩)
  | 7 => fun _ v _ _ => v = .slice (some ⟨gb, off, none⟩) 2 c
  | 8 => fun _ v _ _ => v = .pointer (some ⟨gb, off + 3, none⟩)
  | 9 => fun _ v _ _ => v = .agg #[.int .i64 xk1, .int .i64 xn1, .slice A1 m1 c1]
  | 10 => fun _ v _ _ => v = .slice Av nv cv
  | 11 => fun _ v _ _ => v = .int .i64 r1
  | 12 => fun _ v _ _ => v = .int .i64 (max r0 r1)
  | 13 => fun _ v _ _ => v = .int .i64 (max r0 r1)
  | _ => fun _ _ _ _ => True
def vl10_C : Nat → List Nat := fun rix => match rix with
  | _ => []
theorem vl10_nw1 : nwB vl10_ops.toArray 1 = true := by kernel_rfl
theorem vl10_nw2 : nwB vl10_ops.toArray 2 = true := by kernel_rfl
set_option maxRecDepth 100000 in
set_option maxHeartbeats 8000000 in
theorem vl10_obs (w0 : World) (b : Nat) (k n : Int) (gb off c : Nat) (Av : Option Addr) (nv cv : Nat) (xk0 xn0 : Int) (A0 : Option Addr) (m0 c0 : Nat) (r0 : Int) (xk1 xn1 : Int) (A1 : Option Addr) (m1 c1 : Nat) (r1 : Int)  (hx2 : w0.heap[b]? = some (.cells #[.int .i64 k, .int .i64 n, .slice (some ⟨gb, off, none⟩) 2 c] 24 (0, 0))) (hgb : gb < b) (hc0 : w0.cell? ⟨gb, off, none⟩ = some (.int .i64 xk0)) (hc1 : w0.cell? ⟨gb, off + 1, none⟩ = some (.int .i64 xn0)) (hc2 : w0.cell? ⟨gb, off + 2, none⟩ = some (.slice A0 m0 c0)) (hc3 : w0.cell? ⟨gb, off + 3, none⟩ = some (.int .i64 xk1)) (hc4 : w0.cell? ⟨gb, off + 4, none⟩ = some (.int .i64 xn1)) (hc5 : w0.cell? ⟨gb, off + 5, none⟩ = some (.slice A1 m1 c1)) (hof0 : ∀ w, (∀ k, k < b → w.heap[k]? = w0.heap[k]?) → w0.heap.size ≤ w.heap.size → Calls Try.prog 35 #[.agg #[.int .i64 xk0, .int .i64 xn0, .slice A0 m0 c0], .slice Av nv cv] w fun e w' => e = .returned (.int .i64 r0) ∧ Below w.heap.size w w') (hof1 : ∀ w, (∀ k, k < b → w.heap[k]? = w0.heap[k]?) → w0.heap.size ≤ w.heap.size → Calls Try.prog 35 #[.agg #[.int .i64 xk1, .int .i64 xn1, .slice A1 m1 c1], .slice Av nv cv] w fun e w' => e = .returned (.int .i64 r1) ∧ Below w.heap.size w w')  (Q : Exit → Act → World → Prop) (a0 : Act) (hi1 : a0.tmps.getD 1 undef = .slice Av nv cv) (hi2 : a0.tmps.getD 2 undef = .pointer (some ⟨b, 0, none⟩)) :
    ObsE Try.prog vl10_ops.toArray Q (est2 0 0 (fun _ => False) (fun _ => False)) vl10_C (vl10_F w0 b k n gb off c Av nv cv xk0 xn0 A0 m0 c0 r0 xk1 xn1 A1 m1 c1 r1 ) a0 w0 vl10_ops.toArray.toList 0 := by
  have nw1 := vl10_nw1
  have nw2 := vl10_nw2
  refine ⟨?_, ?_, ?_, ?_, ?_, ?_, ?_, ?_, ?_, ?_, ?_, ?_, ?_, ?_, trivial⟩
  · refine ⟨⟨fun τ => stableE_det _, leans_not⟩, ?_⟩
    intro a w O hk
    have e2 : a.eval (.tmp 2) = .pointer (some ⟨b, 0, none⟩) := (hk.init 2 (initialB_of_nw nw2)).trans hi2
    exact obE_run (wanted_none rfl) (by unfold execOp; simp only []; rw [e2]; go_simp) rfl
  · refine ⟨⟨fun τ => stableE_det _, leans_not⟩, ?_⟩
    intro a w O hk
    have e37 : a.eval (.tmp 37) = .pointer (some ⟨b, 2, none⟩) := hk.fact 0 _ 37 rfl rfl rfl rfl
    have x2 := hk.world.still hx2 (fun ⟨_, h⟩ => h.elim And.right And.right)
    obtain ⟨p0, p1, p2, -, -, -⟩ := row3 x2
    have hfx : ∀ k, k < b → w.heap[k]? = w0.heap[k]? := fun k hkb => hk.fix k (est2_fix (by have := blk_lt hx2; omega) (fun h => h) (fun h => h))
    have hcc : ∀ j, w.cell? ⟨gb, j, none⟩ = w0.cell? ⟨gb, j, none⟩ := fun j => cell_same (hfx _ hgb)
    have q0 := (hcc _).trans hc0
    have q1 := (hcc _).trans hc1
    have q2 := (hcc _).trans hc2
    have q3 := (hcc _).trans hc3
    have q4 := (hcc _).trans hc4
    have q5 := (hcc _).trans hc5
    exact obE_run (wanted_none rfl) (by unfold execOp; simp only []; rw [e37]; go_simp) rfl
  · refine ⟨⟨fun τ => stableE_det _, leans_not⟩, ?_⟩
    intro a w O hk
    have e38 : a.eval (.tmp 38) = .slice (some ⟨gb, off, none⟩) 2 c := hk.fact 1 _ 38 rfl rfl rfl rfl
    have x2 := hk.world.still hx2 (fun ⟨_, h⟩ => h.elim And.right And.right)
    obtain ⟨p0, p1, p2, -, -, -⟩ := row3 x2
    have hfx : ∀ k, k < b → w.heap[k]? = w0.heap[k]? := fun k hkb => hk.fix k (est2_fix (by have := blk_lt hx2; omega) (fun h => h) (fun h => h))
    have hcc : ∀ j, w.cell? ⟨gb, j, none⟩ = w0.cell? ⟨gb, j, none⟩ := fun j => cell_same (hfx _ hgb)
    have q0 := (hcc _).trans hc0
    have q1 := (hcc _).trans hc1
    have q2 := (hcc _).trans hc2
    have q3 := (hcc _).trans hc3
    have q4 := (hcc _).trans hc4
    have q5 := (hcc _).trans hc5
    exact obE_run (wanted_none rfl) (by unfold execOp; simp only []; rw [e38]; go_simp) rfl
  · refine ⟨⟨fun τ => stableE_det _, leans_not⟩, ?_⟩
    intro a w O hk
    have e39 : a.eval (.tmp 39) = .pointer (some ⟨gb, off, none⟩) := hk.fact 2 _ 39 rfl rfl rfl rfl
    have x2 := hk.world.still hx2 (fun ⟨_, h⟩ => h.elim And.right And.right)
    obtain ⟨p0, p1, p2, -, -, -⟩ := row3 x2
    have hfx : ∀ k, k < b → w.heap[k]? = w0.heap[k]? := fun k hkb => hk.fix k (est2_fix (by have := blk_lt hx2; omega) (fun h => h) (fun h => h))
    have hcc : ∀ j, w.cell? ⟨gb, j, none⟩ = w0.cell? ⟨gb, j, none⟩ := fun j => cell_same (hfx _ hgb)
    have q0 := (hcc _).trans hc0
    have q1 := (hcc _).trans hc1
    have q2 := (hcc _).trans hc2
    have q3 := (hcc _).trans hc3
    have q4 := (hcc _).trans hc4
    have q5 := (hcc _).trans hc5
    exact obE_run (wanted_none rfl) (by unfold execOp; simp only []; rw [e39]; go_simp) rfl
  · refine ⟨⟨fun τ => stableE_det _, leans_not⟩, ?_⟩
    intro a w O hk
    have e1 : a.eval (.tmp 1) = .slice Av nv cv := (hk.init 1 (initialB_of_nw nw1)).trans hi1
    exact toE (ob_move rfl e1 (wanted_none rfl) rfl)
  · refine ⟨⟨fun τ => stableE_det _, leans_not⟩, ?_⟩
    intro a w O hk
    have e40 : a.eval (.tmp 40) = .agg #[.int .i64 xk0, .int .i64 xn0, .slice A0 m0 c0] := hk.fact 3 _ 40 rfl rfl rfl rfl
    have e41 : a.eval (.tmp 41) = .slice Av nv cv := hk.fact 4 _ 41 rfl rfl rfl rfl
    have x2 := hk.world.still hx2 (fun ⟨_, h⟩ => h.elim And.right And.right)
    obtain ⟨p0, p1, p2, -, -, -⟩ := row3 x2
    have hfx : ∀ k, k < b → w.heap[k]? = w0.heap[k]? := fun k hkb => hk.fix k (est2_fix (by have := blk_lt hx2; omega) (fun h => h) (fun h => h))
    have hcc : ∀ j, w.cell? ⟨gb, j, none⟩ = w0.cell? ⟨gb, j, none⟩ := fun j => cell_same (hfx _ hgb)
    have q0 := (hcc _).trans hc0
    have q1 := (hcc _).trans hc1
    have q2 := (hcc _).trans hc2
    have q3 := (hcc _).trans hc3
    have q4 := (hcc _).trans hc4
    have q5 := (hcc _).trans hc5
    exact obE_callV #[.agg #[.int .i64 xk0, .int .i64 xn0, .slice A0 m0 c0], .slice Av nv cv] rfl rfl rfl rfl (by simp only [List.map_cons, List.map_nil]; rw [e40, e41]) (wanted_none rfl) (hof0 w hfx hk.world.size)
  · refine ⟨⟨fun τ => stableE_det _, leans_not⟩, ?_⟩
    intro a w O hk
    have e2 : a.eval (.tmp 2) = .pointer (some ⟨b, 0, none⟩) := (hk.init 2 (initialB_of_nw nw2)).trans hi2
    exact obE_run (wanted_none rfl) (by unfold execOp; simp only []; rw [e2]; go_simp) rfl
  · refine ⟨⟨fun τ => stableE_det _, leans_not⟩, ?_⟩
    intro a w O hk
    have e43 : a.eval (.tmp 43) = .pointer (some ⟨b, 2, none⟩) := hk.fact 6 _ 43 rfl rfl rfl rfl
    have x2 := hk.world.still hx2 (fun ⟨_, h⟩ => h.elim And.right And.right)
    obtain ⟨p0, p1, p2, -, -, -⟩ := row3 x2
    have hfx : ∀ k, k < b → w.heap[k]? = w0.heap[k]? := fun k hkb => hk.fix k (est2_fix (by have := blk_lt hx2; omega) (fun h => h) (fun h => h))
    have hcc : ∀ j, w.cell? ⟨gb, j, none⟩ = w0.cell? ⟨gb, j, none⟩ := fun j => cell_same (hfx _ hgb)
    have q0 := (hcc _).trans hc0
    have q1 := (hcc _).trans hc1
    have q2 := (hcc _).trans hc2
    have q3 := (hcc _).trans hc3
    have q4 := (hcc _).trans hc4
    have q5 := (hcc _).trans hc5
    exact obE_run (wanted_none rfl) (by unfold execOp; simp only []; rw [e43]; go_simp) rfl
  · refine ⟨⟨fun τ => stableE_det _, leans_not⟩, ?_⟩
    intro a w O hk
    have e44 : a.eval (.tmp 44) = .slice (some ⟨gb, off, none⟩) 2 c := hk.fact 7 _ 44 rfl rfl rfl rfl
    have x2 := hk.world.still hx2 (fun ⟨_, h⟩ => h.elim And.right And.right)
    obtain ⟨p0, p1, p2, -, -, -⟩ := row3 x2
    have hfx : ∀ k, k < b → w.heap[k]? = w0.heap[k]? := fun k hkb => hk.fix k (est2_fix (by have := blk_lt hx2; omega) (fun h => h) (fun h => h))
    have hcc : ∀ j, w.cell? ⟨gb, j, none⟩ = w0.cell? ⟨gb, j, none⟩ := fun j => cell_same (hfx _ hgb)
    have q0 := (hcc _).trans hc0
    have q1 := (hcc _).trans hc1
    have q2 := (hcc _).trans hc2
    have q3 := (hcc _).trans hc3
    have q4 := (hcc _).trans hc4
    have q5 := (hcc _).trans hc5
    exact obE_run (wanted_none rfl) (by unfold execOp; simp only []; rw [e44]; go_simp) rfl
  · refine ⟨⟨fun τ => stableE_det _, leans_not⟩, ?_⟩
    intro a w O hk
    have e45 : a.eval (.tmp 45) = .pointer (some ⟨gb, off + 3, none⟩) := hk.fact 8 _ 45 rfl rfl rfl rfl
    have x2 := hk.world.still hx2 (fun ⟨_, h⟩ => h.elim And.right And.right)
    obtain ⟨p0, p1, p2, -, -, -⟩ := row3 x2
    have hfx : ∀ k, k < b → w.heap[k]? = w0.heap[k]? := fun k hkb => hk.fix k (est2_fix (by have := blk_lt hx2; omega) (fun h => h) (fun h => h))
    have hcc : ∀ j, w.cell? ⟨gb, j, none⟩ = w0.cell? ⟨gb, j, none⟩ := fun j => cell_same (hfx _ hgb)
    have q0 := (hcc _).trans hc0
    have q1 := (hcc _).trans hc1
    have q2 := (hcc _).trans hc2
    have q3 := (hcc _).trans hc3
    have q4 := (hcc _).trans hc4
    have q5 := (hcc _).trans hc5
    exact obE_run (wanted_none rfl) (by unfold execOp; simp only []; rw [e45]; go_simp) rfl
  · refine ⟨⟨fun τ => stableE_det _, leans_not⟩, ?_⟩
    intro a w O hk
    have e1 : a.eval (.tmp 1) = .slice Av nv cv := (hk.init 1 (initialB_of_nw nw1)).trans hi1
    exact toE (ob_move rfl e1 (wanted_none rfl) rfl)
  · refine ⟨⟨fun τ => stableE_det _, leans_not⟩, ?_⟩
    intro a w O hk
    have e46 : a.eval (.tmp 46) = .agg #[.int .i64 xk1, .int .i64 xn1, .slice A1 m1 c1] := hk.fact 9 _ 46 rfl rfl rfl rfl
    have e47 : a.eval (.tmp 47) = .slice Av nv cv := hk.fact 10 _ 47 rfl rfl rfl rfl
    have x2 := hk.world.still hx2 (fun ⟨_, h⟩ => h.elim And.right And.right)
    obtain ⟨p0, p1, p2, -, -, -⟩ := row3 x2
    have hfx : ∀ k, k < b → w.heap[k]? = w0.heap[k]? := fun k hkb => hk.fix k (est2_fix (by have := blk_lt hx2; omega) (fun h => h) (fun h => h))
    have hcc : ∀ j, w.cell? ⟨gb, j, none⟩ = w0.cell? ⟨gb, j, none⟩ := fun j => cell_same (hfx _ hgb)
    have q0 := (hcc _).trans hc0
    have q1 := (hcc _).trans hc1
    have q2 := (hcc _).trans hc2
    have q3 := (hcc _).trans hc3
    have q4 := (hcc _).trans hc4
    have q5 := (hcc _).trans hc5
    exact obE_callV #[.agg #[.int .i64 xk1, .int .i64 xn1, .slice A1 m1 c1], .slice Av nv cv] rfl rfl rfl rfl (by simp only [List.map_cons, List.map_nil]; rw [e46, e47]) (wanted_none rfl) (hof1 w hfx hk.world.size)
  · refine ⟨⟨fun τ => stableE_det _, leans_not⟩, ?_⟩
    intro a w O hk
    have e42 : a.eval (.tmp 42) = .int .i64 r0 := hk.fact 5 _ 42 rfl rfl rfl rfl
    have e48 : a.eval (.tmp 48) = .int .i64 r1 := hk.fact 11 _ 48 rfl rfl rfl rfl
    exact obE_maxInt rfl e42 e48 (wanted_none rfl) rfl
  · refine ⟨⟨fun τ => stableE_det _, leans_not⟩, ?_⟩
    intro a w O hk
    have e49 : a.eval (.tmp 49) = .int .i64 (max r0 r1) := hk.fact 12 _ 49 rfl rfl rfl rfl
    exact toE (ob_assign rfl e49 (wanted_none rfl) rfl)
set_option maxRecDepth 100000 in
set_option maxHeartbeats 8000000 in
theorem vl10_region {Q : Exit → Act → World → Prop} {id : Nat} (w0 : World) (b : Nat) (k n : Int) (gb off c : Nat) (Av : Option Addr) (nv cv : Nat) (xk0 xn0 : Int) (A0 : Option Addr) (m0 c0 : Nat) (r0 : Int) (xk1 xn1 : Int) (A1 : Option Addr) (m1 c1 : Nat) (r1 : Int)  {s0 s3 s4 s5 s6 s7 s8 s9 s10 s11 s12 s13 s14 s15 s16 s17 s18 s19 s20 s21 s22 s23 s24 s25 s26 s27 s28 s29 s30 s31 s32 s33 s34 s35 s36 s37 s38 s39 s40 s41 s42 s43 s44 s45 s46 s47 s48 s49 : Value} (hx2 : w0.heap[b]? = some (.cells #[.int .i64 k, .int .i64 n, .slice (some ⟨gb, off, none⟩) 2 c] 24 (0, 0))) (hgb : gb < b) (hc0 : w0.cell? ⟨gb, off, none⟩ = some (.int .i64 xk0)) (hc1 : w0.cell? ⟨gb, off + 1, none⟩ = some (.int .i64 xn0)) (hc2 : w0.cell? ⟨gb, off + 2, none⟩ = some (.slice A0 m0 c0)) (hc3 : w0.cell? ⟨gb, off + 3, none⟩ = some (.int .i64 xk1)) (hc4 : w0.cell? ⟨gb, off + 4, none⟩ = some (.int .i64 xn1)) (hc5 : w0.cell? ⟨gb, off + 5, none⟩ = some (.slice A1 m1 c1)) (hof0 : ∀ w, (∀ k, k < b → w.heap[k]? = w0.heap[k]?) → w0.heap.size ≤ w.heap.size → Calls Try.prog 35 #[.agg #[.int .i64 xk0, .int .i64 xn0, .slice A0 m0 c0], .slice Av nv cv] w fun e w' => e = .returned (.int .i64 r0) ∧ Below w.heap.size w w') (hof1 : ∀ w, (∀ k, k < b → w.heap[k]? = w0.heap[k]?) → w0.heap.size ≤ w.heap.size → Calls Try.prog 35 #[.agg #[.int .i64 xk1, .int .i64 xn1, .slice A1 m1 c1], .slice Av nv cv] w fun e w' => e = .returned (.int .i64 r1) ∧ Below w.heap.size w w') 
    (hend : ∀ (w' : World), Chg (fun k => False ∨ False) w0 w' → Q .normal { tmps := (s0 :: (.slice Av nv cv : Value) :: (.pointer (some ⟨b, 0, none⟩) : Value) :: s3 :: (.int .i64 (max r0 r1) : Value) :: s5 :: s6 :: s7 :: s8 :: s9 :: s10 :: s11 :: s12 :: s13 :: s14 :: s15 :: s16 :: s17 :: s18 :: s19 :: s20 :: s21 :: s22 :: s23 :: s24 :: s25 :: s26 :: s27 :: s28 :: s29 :: s30 :: s31 :: s32 :: s33 :: s34 :: s35 :: s36 :: (.pointer (some ⟨b, 2, none⟩) : Value) :: (.slice (some ⟨gb, off, none⟩) 2 c : Value) :: (.pointer (some ⟨gb, off, none⟩) : Value) :: (.agg #[.int .i64 xk0, .int .i64 xn0, .slice A0 m0 c0] : Value) :: (.slice Av nv cv : Value) :: (.int .i64 r0 : Value) :: (.pointer (some ⟨b, 2, none⟩) : Value) :: (.slice (some ⟨gb, off, none⟩) 2 c : Value) :: (.pointer (some ⟨gb, off + 3, none⟩) : Value) :: (.agg #[.int .i64 xk1, .int .i64 xn1, .slice A1 m1 c1] : Value) :: (.slice Av nv cv : Value) :: (.int .i64 r1 : Value) :: (.int .i64 (max r0 r1) : Value) :: ([] : List Value)).toArray, defers := [] } w') :
    (Code.region id vl10_ops.toArray true).wp Try.prog Q { tmps := (s0 :: (.slice Av nv cv : Value) :: (.pointer (some ⟨b, 0, none⟩) : Value) :: s3 :: s4 :: s5 :: s6 :: s7 :: s8 :: s9 :: s10 :: s11 :: s12 :: s13 :: s14 :: s15 :: s16 :: s17 :: s18 :: s19 :: s20 :: s21 :: s22 :: s23 :: s24 :: s25 :: s26 :: s27 :: s28 :: s29 :: s30 :: s31 :: s32 :: s33 :: s34 :: s35 :: s36 :: s37 :: s38 :: s39 :: s40 :: s41 :: s42 :: s43 :: s44 :: s45 :: s46 :: s47 :: s48 :: s49 :: ([] : List Value)).toArray, defers := [] } w0 := by
  refine wp_region_est (by kernel_rfl) (est2 0 0 (fun _ => False) (fun _ => False)) vl10_C (vl10_F w0 b k n gb off c Av nv cv xk0 xn0 A0 m0 c0 r0 xk1 xn1 A1 m1 c1 r1 ) (est2_dis (fun _ h _ => h)) (est2_range (fun _ h => h.elim) (fun _ h => h.elim)) (by rfl) (by kernel_rfl) (vl10_obs w0.drew b k n gb off c Av nv cv xk0 xn0 A0 m0 c0 r0 xk1 xn1 A1 m1 c1 r1  hx2 hgb hc0 hc1 hc2 hc3 hc4 hc5 hof0 hof1 _ _ rfl rfl) ?_
  intro a w' O hd hs hb hf hf2 ha hsame
  have x0 : a.tmps.getD 0 undef = s0 := hsame 0 (nwB.spec (by kernel_rfl))
  have x1 : a.tmps.getD 1 undef = .slice Av nv cv := hsame 1 (nwB.spec (by kernel_rfl))
  have x2 : a.tmps.getD 2 undef = .pointer (some ⟨b, 0, none⟩) := hsame 2 (nwB.spec (by kernel_rfl))
  have x3 : a.tmps.getD 3 undef = s3 := hsame 3 (nwB.spec (by kernel_rfl))
  have x4 : a.tmps.getD 4 undef = .int .i64 (max r0 r1) := (hf 13 _ 4 rfl rfl (by decide)).1
  have x5 : a.tmps.getD 5 undef = s5 := hsame 5 (nwB.spec (by kernel_rfl))
  have x6 : a.tmps.getD 6 undef = s6 := hsame 6 (nwB.spec (by kernel_rfl))
  have x7 : a.tmps.getD 7 undef = s7 := hsame 7 (nwB.spec (by kernel_rfl))
  have x8 : a.tmps.getD 8 undef = s8 := hsame 8 (nwB.spec (by kernel_rfl))
  have x9 : a.tmps.getD 9 undef = s9 := hsame 9 (nwB.spec (by kernel_rfl))
  have x10 : a.tmps.getD 10 undef = s10 := hsame 10 (nwB.spec (by kernel_rfl))
  have x11 : a.tmps.getD 11 undef = s11 := hsame 11 (nwB.spec (by kernel_rfl))
  have x12 : a.tmps.getD 12 undef = s12 := hsame 12 (nwB.spec (by kernel_rfl))
  have x13 : a.tmps.getD 13 undef = s13 := hsame 13 (nwB.spec (by kernel_rfl))
  have x14 : a.tmps.getD 14 undef = s14 := hsame 14 (nwB.spec (by kernel_rfl))
  have x15 : a.tmps.getD 15 undef = s15 := hsame 15 (nwB.spec (by kernel_rfl))
  have x16 : a.tmps.getD 16 undef = s16 := hsame 16 (nwB.spec (by kernel_rfl))
  have x17 : a.tmps.getD 17 undef = s17 := hsame 17 (nwB.spec (by kernel_rfl))
  have x18 : a.tmps.getD 18 undef = s18 := hsame 18 (nwB.spec (by kernel_rfl))
  have x19 : a.tmps.getD 19 undef = s19 := hsame 19 (nwB.spec (by kernel_rfl))
  have x20 : a.tmps.getD 20 undef = s20 := hsame 20 (nwB.spec (by kernel_rfl))
  have x21 : a.tmps.getD 21 undef = s21 := hsame 21 (nwB.spec (by kernel_rfl))
  have x22 : a.tmps.getD 22 undef = s22 := hsame 22 (nwB.spec (by kernel_rfl))
  have x23 : a.tmps.getD 23 undef = s23 := hsame 23 (nwB.spec (by kernel_rfl))
  have x24 : a.tmps.getD 24 undef = s24 := hsame 24 (nwB.spec (by kernel_rfl))
  have x25 : a.tmps.getD 25 undef = s25 := hsame 25 (nwB.spec (by kernel_rfl))
  have x26 : a.tmps.getD 26 undef = s26 := hsame 26 (nwB.spec (by kernel_rfl))
  have x27 : a.tmps.getD 27 undef = s27 := hsame 27 (nwB.spec (by kernel_rfl))
  have x28 : a.tmps.getD 28 undef = s28 := hsame 28 (nwB.spec (by kernel_rfl))
  have x29 : a.tmps.getD 29 undef = s29 := hsame 29 (nwB.spec (by kernel_rfl))
  have x30 : a.tmps.getD 30 undef = s30 := hsame 30 (nwB.spec (by kernel_rfl))
  have x31 : a.tmps.getD 31 undef = s31 := hsame 31 (nwB.spec (by kernel_rfl))
  have x32 : a.tmps.getD 32 undef = s32 := hsame 32 (nwB.spec (by kernel_rfl))
  have x33 : a.tmps.getD 33 undef = s33 := hsame 33 (nwB.spec (by kernel_rfl))
  have x34 : a.tmps.getD 34 undef = s34 := hsame 34 (nwB.spec (by kernel_rfl))
  have x35 : a.tmps.getD 35 undef = s35 := hsame 35 (nwB.spec (by kernel_rfl))
  have x36 : a.tmps.getD 36 undef = s36 := hsame 36 (nwB.spec (by kernel_rfl))
  have x37 : a.tmps.getD 37 undef = .pointer (some ⟨b, 2, none⟩) := (hf 0 _ 37 rfl rfl (by decide)).1
  have x38 : a.tmps.getD 38 undef = .slice (some ⟨gb, off, none⟩) 2 c := (hf 1 _ 38 rfl rfl (by decide)).1
  have x39 : a.tmps.getD 39 undef = .pointer (some ⟨gb, off, none⟩) := (hf 2 _ 39 rfl rfl (by decide)).1
  have x40 : a.tmps.getD 40 undef = .agg #[.int .i64 xk0, .int .i64 xn0, .slice A0 m0 c0] := (hf 3 _ 40 rfl rfl (by decide)).1
  have x41 : a.tmps.getD 41 undef = .slice Av nv cv := (hf 4 _ 41 rfl rfl (by decide)).1
  have x42 : a.tmps.getD 42 undef = .int .i64 r0 := (hf 5 _ 42 rfl rfl (by decide)).1
  have x43 : a.tmps.getD 43 undef = .pointer (some ⟨b, 2, none⟩) := (hf 6 _ 43 rfl rfl (by decide)).1
  have x44 : a.tmps.getD 44 undef = .slice (some ⟨gb, off, none⟩) 2 c := (hf 7 _ 44 rfl rfl (by decide)).1
  have x45 : a.tmps.getD 45 undef = .pointer (some ⟨gb, off + 3, none⟩) := (hf 8 _ 45 rfl rfl (by decide)).1
  have x46 : a.tmps.getD 46 undef = .agg #[.int .i64 xk1, .int .i64 xn1, .slice A1 m1 c1] := (hf 9 _ 46 rfl rfl (by decide)).1
  have x47 : a.tmps.getD 47 undef = .slice Av nv cv := (hf 10 _ 47 rfl rfl (by decide)).1
  have x48 : a.tmps.getD 48 undef = .int .i64 r1 := (hf 11 _ 48 rfl rfl (by decide)).1
  have x49 : a.tmps.getD 49 undef = .int .i64 (max r0 r1) := (hf 12 _ 49 rfl rfl (by decide)).1
  have hl : a.tmps = (s0 :: (.slice Av nv cv : Value) :: (.pointer (some ⟨b, 0, none⟩) : Value) :: s3 :: (.int .i64 (max r0 r1) : Value) :: s5 :: s6 :: s7 :: s8 :: s9 :: s10 :: s11 :: s12 :: s13 :: s14 :: s15 :: s16 :: s17 :: s18 :: s19 :: s20 :: s21 :: s22 :: s23 :: s24 :: s25 :: s26 :: s27 :: s28 :: s29 :: s30 :: s31 :: s32 :: s33 :: s34 :: s35 :: s36 :: (.pointer (some ⟨b, 2, none⟩) : Value) :: (.slice (some ⟨gb, off, none⟩) 2 c : Value) :: (.pointer (some ⟨gb, off, none⟩) : Value) :: (.agg #[.int .i64 xk0, .int .i64 xn0, .slice A0 m0 c0] : Value) :: (.slice Av nv cv : Value) :: (.int .i64 r0 : Value) :: (.pointer (some ⟨b, 2, none⟩) : Value) :: (.slice (some ⟨gb, off, none⟩) 2 c : Value) :: (.pointer (some ⟨gb, off + 3, none⟩) : Value) :: (.agg #[.int .i64 xk1, .int .i64 xn1, .slice A1 m1 c1] : Value) :: (.slice Av nv cv : Value) :: (.int .i64 r1 : Value) :: (.int .i64 (max r0 r1) : Value) :: ([] : List Value)).toArray := by
    have h := lit a.tmps 50 hs
    have e : ((List.range 50).map (fun i => a.tmps.getD i undef)).toArray = ((a.tmps.getD 0 undef : Value) :: (a.tmps.getD 1 undef : Value) :: (a.tmps.getD 2 undef : Value) :: (a.tmps.getD 3 undef : Value) :: (a.tmps.getD 4 undef : Value) :: (a.tmps.getD 5 undef : Value) :: (a.tmps.getD 6 undef : Value) :: (a.tmps.getD 7 undef : Value) :: (a.tmps.getD 8 undef : Value) :: (a.tmps.getD 9 undef : Value) :: (a.tmps.getD 10 undef : Value) :: (a.tmps.getD 11 undef : Value) :: (a.tmps.getD 12 undef : Value) :: (a.tmps.getD 13 undef : Value) :: (a.tmps.getD 14 undef : Value) :: (a.tmps.getD 15 undef : Value) :: (a.tmps.getD 16 undef : Value) :: (a.tmps.getD 17 undef : Value) :: (a.tmps.getD 18 undef : Value) :: (a.tmps.getD 19 undef : Value) :: (a.tmps.getD 20 undef : Value) :: (a.tmps.getD 21 undef : Value) :: (a.tmps.getD 22 undef : Value) :: (a.tmps.getD 23 undef : Value) :: (a.tmps.getD 24 undef : Value) :: (a.tmps.getD 25 undef : Value) :: (a.tmps.getD 26 undef : Value) :: (a.tmps.getD 27 undef : Value) :: (a.tmps.getD 28 undef : Value) :: (a.tmps.getD 29 undef : Value) :: (a.tmps.getD 30 undef : Value) :: (a.tmps.getD 31 undef : Value) :: (a.tmps.getD 32 undef : Value) :: (a.tmps.getD 33 undef : Value) :: (a.tmps.getD 34 undef : Value) :: (a.tmps.getD 35 undef : Value) :: (a.tmps.getD 36 undef : Value) :: (a.tmps.getD 37 undef : Value) :: (a.tmps.getD 38 undef : Value) :: (a.tmps.getD 39 undef : Value) :: (a.tmps.getD 40 undef : Value) :: (a.tmps.getD 41 undef : Value) :: (a.tmps.getD 42 undef : Value) :: (a.tmps.getD 43 undef : Value) :: (a.tmps.getD 44 undef : Value) :: (a.tmps.getD 45 undef : Value) :: (a.tmps.getD 46 undef : Value) :: (a.tmps.getD 47 undef : Value) :: (a.tmps.getD 48 undef : Value) :: (a.tmps.getD 49 undef : Value) :: ([] : List Value)).toArray := rfl
    rw [e, x0, x1, x2, x3, x4, x5, x6, x7, x8, x9, x10, x11, x12, x13, x14, x15, x16, x17, x18, x19, x20, x21, x22, x23, x24, x25, x26, x27, x28, x29, x30, x31, x32, x33, x34, x35, x36, x37, x38, x39, x40, x41, x42, x43, x44, x45, x46, x47, x48, x49] at h
    exact h
  obtain ⟨tmps, defers⟩ := a
  obtain rfl : defers = [] := hd
  have hl' : tmps = _ := hl
  rw [hl']
  have hb' := est2_chg hb
  exact hend w' ⟨hb'.os, hb'.tape, hb'.output, hb'.size, hb'.block⟩

end Go.Proofs.Ytjlhbaohippidaa
