/-
  Merged: VlR, ValR, MeR1.
-/
import Derived.Test.YtjlhbaohippidaaMGoesOn3
/-! VlR -/
namespace Go.Proofs.Ytjlhbaohippidaa
open Go.RowKit Go.Proofs.YtjlhbaohippidaaW.PrintWords Go.RegionInvYtjlhbaohippidaa Go.RegionEYtjlhbaohippidaa
set_option linter.unusedVariables false

def vl9_ops : List Oper := [
  { dst := some 27, op := Go.Op.fieldAddr 24 (Go.Operand.tmp 2) 2, type := 0, pos := "ref.go:233", after := #[], guard := none },
  { dst := some 28, op := Go.Op.load 22 (Go.Operand.tmp 27), type := 22, pos := "ref.go:233", after := #[{ on := 0, ground := Go.Ground.data }], guard := none },
  { dst := some 29, op := Go.Op.indexAddr 22 (Go.Operand.tmp 28) (Go.Operand.const (Go.Value.int Go.IntKind.i64 0)), type := 0, pos := "ref.go:233", after := #[{ on := 1, ground := Go.Ground.data }], guard := none },
  { dst := some 30, op := Go.Op.load 24 (Go.Operand.tmp 29), type := 24, pos := "ref.go:233", after := #[{ on := 2, ground := Go.Ground.data }], guard := none },
  { dst := some 31, op := Go.Op.move (Go.Operand.tmp 1), type := 29, pos := "ref.go:233", after := #[], guard := none },
  { dst := some 32, op := Go.Op.call { callee := Go.Callee.value (Go.Operand.func 35), args := #[Go.Operand.tmp 30, Go.Operand.tmp 31], argTypes := #[24, 29] }, type := 3, pos := "ref.go:233", after := #[{ on := 3, ground := Go.Ground.data }, { on := 4, ground := Go.Ground.data }], guard := none },
  { dst := some 33, op := Go.Op.fieldAddr 24 (Go.Operand.tmp 2) 1, type := 0, pos := "ref.go:233", after := #[], guard := none },
  { dst := some 34, op := Go.Op.load 3 (Go.Operand.tmp 33), type := 3, pos := "ref.go:233", after := #[{ on := 6, ground := Go.Ground.data }], guard := none },
  { dst := some 35, op := Go.Op.binOp Go.BinOp.add 3 (Go.Operand.tmp 32) (Go.Operand.tmp 34) 3, type := 3, pos := "ref.go:233", after := #[{ on := 5, ground := Go.Ground.data }, { on := 7, ground := Go.Ground.data }], guard := none },
  { dst := some 36, op := Go.Op.call { callee := Go.Callee.builtin Go.Builtin.min, args := #[Go.Operand.tmp 35, Go.Operand.const (Go.Value.int Go.IntKind.i64 1099511627776)], argTypes := #[3, 3] }, type := 3, pos := "ref.go:233", after := #[{ on := 8, ground := Go.Ground.data }], guard := none },
  { dst := some 4, op := Go.Op.assign (Go.Operand.tmp 36), type := 3, pos := "ref.go:233", after := #[{ on := 9, ground := Go.Ground.data }, { on := 5, ground := Go.Ground.chain }, { on := 0, ground := Go.Ground.phase }, { on := 1, ground := Go.Ground.phase }, { on := 2, ground := Go.Ground.phase }, { on := 3, ground := Go.Ground.phase }, { on := 4, ground := Go.Ground.phase }, { on := 5, ground := Go.Ground.phase }, { on := 6, ground := Go.Ground.phase }, { on := 7, ground := Go.Ground.phase }, { on := 8, ground := Go.Ground.phase }, { on := 9, ground := Go.Ground.phase }], guard := none }]
def vl9_F (w0 : World) (b : Nat) (k n : Int) (gb off c : Nat) (Av : Option Addr) (nv cv : Nat) (xk0 xn0 : Int) (A0 : Option Addr) (m0 c0 : Nat) (r0 : Int)  : Nat → (Nat → Value) → Value → World → (Nat → Prop) → Prop := fun rix => match rix with
  | 0 => fun _ v _ _ => v = .pointer (some ⟨b, 2, none⟩)
  | 1 => fun _ v _ _ => v = .slice (some ⟨gb, off, none⟩) 1 c
  | 2 => fun _ v _ _ => v = .pointer (some ⟨gb, off, none⟩)
  | 3 => fun _ v _ _ => v = .agg #[.int .i64 xk0, .int .i64 xn0, .slice A0 m0 c0]
  | 4 => fun _ v _ _ => v = .slice Av nv cv
  | 5 => fun _ v _ _ => v = .int .i64 r0
  | 6 => fun _ v _ _ => v = .pointer (some ⟨b, 1, none⟩)
  | 7 => fun _ v _ _ => v = .int .i64 n
  | 8 => fun _ v _ _ => v = .int .i64 (r0 + n)
  | 9 => fun _ v _ _ => v = .int .i64 (min (r0 + n) 1099511627776)
  | 10 => fun _ v _ _ => v = .int .i64 (min (r0 + n) 1099511627776)
  | _ => fun _ _ _ _ => True
def vl9_C : Nat → List Nat := fun rix => match rix with
  | _ => []
theorem vl9_nw1 : nwB vl9_ops.toArray 1 = true := by kernel_rfl
theorem vl9_nw2 : nwB vl9_ops.toArray 2 = true := by kernel_rfl
set_option maxRecDepth 100000 in
set_option maxHeartbeats 8000000 in
theorem vl9_obs (w0 : World) (b : Nat) (k n : Int) (gb off c : Nat) (Av : Option Addr) (nv cv : Nat) (xk0 xn0 : Int) (A0 : Option Addr) (m0 c0 : Nat) (r0 : Int)  (hx2 : w0.heap[b]? = some (.cells #[.int .i64 k, .int .i64 n, .slice (some ⟨gb, off, none⟩) 1 c] 24 (0, 0))) (hgb : gb < b) (hc0 : w0.cell? ⟨gb, off, none⟩ = some (.int .i64 xk0)) (hc1 : w0.cell? ⟨gb, off + 1, none⟩ = some (.int .i64 xn0)) (hc2 : w0.cell? ⟨gb, off + 2, none⟩ = some (.slice A0 m0 c0)) (hof0 : ∀ w, (∀ k, k < b → w.heap[k]? = w0.heap[k]?) → w0.heap.size ≤ w.heap.size → Calls Try.prog 35 #[.agg #[.int .i64 xk0, .int .i64 xn0, .slice A0 m0 c0], .slice Av nv cv] w fun e w' => e = .returned (.int .i64 r0) ∧ Below w.heap.size w w') (hwr : IntKind.i64.wrap (r0 + n) = r0 + n) (Q : Exit → Act → World → Prop) (a0 : Act) (hi1 : a0.tmps.getD 1 undef = .slice Av nv cv) (hi2 : a0.tmps.getD 2 undef = .pointer (some ⟨b, 0, none⟩)) :
    ObsE Try.prog vl9_ops.toArray Q (est2 0 0 (fun _ => False) (fun _ => False)) vl9_C (vl9_F w0 b k n gb off c Av nv cv xk0 xn0 A0 m0 c0 r0 ) a0 w0 vl9_ops.toArray.toList 0 := by
  have nw1 := vl9_nw1
  have nw2 := vl9_nw2
  refine ⟨?_, ?_, ?_, ?_, ?_, ?_, ?_, ?_, ?_, ?_, ?_, trivial⟩
  · refine ⟨⟨fun τ => stableE_det _, leans_not⟩, ?_⟩
    intro a w O hk
    have e2 : a.eval (.tmp 2) = .pointer (some ⟨b, 0, none⟩) := (hk.init 2 (initialB_of_nw nw2)).trans hi2
    exact obE_run (wanted_none rfl) (by unfold execOp; simp only []; rw [e2]; go_simp) rfl
  · refine ⟨⟨fun τ => stableE_det _, leans_not⟩, ?_⟩
    intro a w O hk
    have e27 : a.eval (.tmp 27) = .pointer (some ⟨b, 2, none⟩) := hk.fact 0 _ 27 rfl rfl rfl rfl
    have x2 := hk.world.still hx2 (fun ⟨_, h⟩ => h.elim And.right And.right)
    obtain ⟨p0, p1, p2, -, -, -⟩ := row3 x2
    have hfx : ∀ k, k < b → w.heap[k]? = w0.heap[k]? := fun k hkb => hk.fix k (est2_fix (by have := blk_lt hx2; omega) (fun h => h) (fun h => h))
    have hcc : ∀ j, w.cell? ⟨gb, j, none⟩ = w0.cell? ⟨gb, j, none⟩ := fun j => cell_same (hfx _ hgb)
    have q0 := (hcc _).trans hc0
    have q1 := (hcc _).trans hc1
    have q2 := (hcc _).trans hc2
    exact obE_run (wanted_none rfl) (by unfold execOp; simp only []; rw [e27]; go_simp) rfl
  · refine ⟨⟨fun τ => stableE_det _, leans_not⟩, ?_⟩
    intro a w O hk
    have e28 : a.eval (.tmp 28) = .slice (some ⟨gb, off, none⟩) 1 c := hk.fact 1 _ 28 rfl rfl rfl rfl
    have x2 := hk.world.still hx2 (fun ⟨_, h⟩ => h.elim And.right And.right)
    obtain ⟨p0, p1, p2, -, -, -⟩ := row3 x2
    have hfx : ∀ k, k < b → w.heap[k]? = w0.heap[k]? := fun k hkb => hk.fix k (est2_fix (by have := blk_lt hx2; omega) (fun h => h) (fun h => h))
    have hcc : ∀ j, w.cell? ⟨gb, j, none⟩ = w0.cell? ⟨gb, j, none⟩ := fun j => cell_same (hfx _ hgb)
    have q0 := (hcc _).trans hc0
    have q1 := (hcc _).trans hc1
    have q2 := (hcc _).trans hc2
    exact obE_run (wanted_none rfl) (by unfold execOp; simp only []; rw [e28]; go_simp) rfl
  · refine ⟨⟨fun τ => stableE_det _, leans_not⟩, ?_⟩
    intro a w O hk
    have e29 : a.eval (.tmp 29) = .pointer (some ⟨gb, off, none⟩) := hk.fact 2 _ 29 rfl rfl rfl rfl
    have x2 := hk.world.still hx2 (fun ⟨_, h⟩ => h.elim And.right And.right)
    obtain ⟨p0, p1, p2, -, -, -⟩ := row3 x2
    have hfx : ∀ k, k < b → w.heap[k]? = w0.heap[k]? := fun k hkb => hk.fix k (est2_fix (by have := blk_lt hx2; omega) (fun h => h) (fun h => h))
    have hcc : ∀ j, w.cell? ⟨gb, j, none⟩ = w0.cell? ⟨gb, j, none⟩ := fun j => cell_same (hfx _ hgb)
    have q0 := (hcc _).trans hc0
    have q1 := (hcc _).trans hc1
    have q2 := (hcc _).trans hc2
    exact obE_run (wanted_none rfl) (by unfold execOp; simp only []; rw [e29]; go_simp) rfl
  · refine ⟨⟨fun τ => stableE_det _, leans_not⟩, ?_⟩
    intro a w O hk
    have e1 : a.eval (.tmp 1) = .slice Av nv cv := (hk.init 1 (initialB_of_nw nw1)).trans hi1
    exact toE (ob_move rfl e1 (wanted_none rfl) rfl)
  · refine ⟨⟨fun τ => stableE_det _, leans_not⟩, ?_⟩
    intro a w O hk
    have e30 : a.eval (.tmp 30) = .agg #[.int .i64 xk0, .int .i64 xn0, .slice A0 m0 c0] := hk.fact 3 _ 30 rfl rfl rfl rfl
    have e31 : a.eval (.tmp 31) = .slice Av nv cv := hk.fact 4 _ 31 rfl rfl rfl rfl
    have x2 := hk.world.still hx2 (fun ⟨_, h⟩ => h.elim And.right And.right)
    obtain ⟨p0, p1, p2, -, -, -⟩ := row3 x2
    have hfx : ∀ k, k < b → w.heap[k]? = w0.heap[k]? := fun k hkb => hk.fix k (est2_fix (by have := blk_lt hx2; omega) (fun h => h) (fun h => h))
    have hcc : ∀ j, w.cell? ⟨gb, j, none⟩ = w0.cell? ⟨gb, j, none⟩ := fun j => cell_same (hfx _ hgb)
    have q0 := (hcc _).trans hc0
    have q1 := (hcc _).trans hc1
    have q2 := (hcc _).trans hc2
    exact obE_callV #[.agg #[.int .i64 xk0, .int .i64 xn0, .slice A0 m0 c0], .slice Av nv cv] rfl rfl rfl rfl (by simp only [List.map_cons, List.map_nil]; rw [e30, e31]) (wanted_none rfl) (hof0 w hfx hk.world.size)
  · refine ⟨⟨fun τ => stableE_det _, leans_not⟩, ?_⟩
    intro a w O hk
    have e2 : a.eval (.tmp 2) = .pointer (some ⟨b, 0, none⟩) := (hk.init 2 (initialB_of_nw nw2)).trans hi2
    exact obE_run (wanted_none rfl) (by unfold execOp; simp only []; rw [e2]; go_simp) rfl
  · refine ⟨⟨fun τ => stableE_det _, leans_not⟩, ?_⟩
    intro a w O hk
    have e33 : a.eval (.tmp 33) = .pointer (some ⟨b, 1, none⟩) := hk.fact 6 _ 33 rfl rfl rfl rfl
    have x2 := hk.world.still hx2 (fun ⟨_, h⟩ => h.elim And.right And.right)
    obtain ⟨p0, p1, p2, -, -, -⟩ := row3 x2
    have hfx : ∀ k, k < b → w.heap[k]? = w0.heap[k]? := fun k hkb => hk.fix k (est2_fix (by have := blk_lt hx2; omega) (fun h => h) (fun h => h))
    have hcc : ∀ j, w.cell? ⟨gb, j, none⟩ = w0.cell? ⟨gb, j, none⟩ := fun j => cell_same (hfx _ hgb)
    have q0 := (hcc _).trans hc0
    have q1 := (hcc _).trans hc1
    have q2 := (hcc _).trans hc2
    exact obE_run (wanted_none rfl) (by unfold execOp; simp only []; rw [e33]; go_simp) rfl
  · refine ⟨⟨fun τ => stableE_det _, leans_not⟩, ?_⟩
    intro a w O hk
    have e32 : a.eval (.tmp 32) = .int .i64 r0 := hk.fact 5 _ 32 rfl rfl rfl rfl
    have e34 : a.eval (.tmp 34) = .int .i64 n := hk.fact 7 _ 34 rfl rfl rfl rfl
    have x2 := hk.world.still hx2 (fun ⟨_, h⟩ => h.elim And.right And.right)
    obtain ⟨p0, p1, p2, -, -, -⟩ := row3 x2
    have hfx : ∀ k, k < b → w.heap[k]? = w0.heap[k]? := fun k hkb => hk.fix k (est2_fix (by have := blk_lt hx2; omega) (fun h => h) (fun h => h))
    have hcc : ∀ j, w.cell? ⟨gb, j, none⟩ = w0.cell? ⟨gb, j, none⟩ := fun j => cell_same (hfx _ hgb)
    have q0 := (hcc _).trans hc0
    have q1 := (hcc _).trans hc1
    have q2 := (hcc _).trans hc2
    exact obE_run (wanted_none rfl) (by unfold execOp; simp only []; rw [e32, e34]; go_simp) rfl
  · refine ⟨⟨fun τ => stableE_det _, leans_not⟩, ?_⟩
    intro a w O hk
    have e35 : a.eval (.tmp 35) = .int .i64 (r0 + n) := hk.fact 8 _ 35 rfl rfl rfl rfl
    exact obE_minInt rfl e35 rfl (wanted_none rfl) rfl
  · refine ⟨⟨fun τ => stableE_det _, leans_not⟩, ?_⟩
    intro a w O hk
    have e36 : a.eval (.tmp 36) = .int .i64 (min (r0 + n) 1099511627776) := hk.fact 9 _ 36 rfl rfl rfl rfl
    exact toE (ob_assign rfl e36 (wanted_none rfl) rfl)
set_option maxRecDepth 100000 in
set_option maxHeartbeats 8000000 in
theorem vl9_region {Q : Exit → Act → World → Prop} {id : Nat} (w0 : World) (b : Nat) (k n : Int) (gb off c : Nat) (Av : Option Addr) (nv cv : Nat) (xk0 xn0 : Int) (A0 : Option Addr) (m0 c0 : Nat) (r0 : Int)  {s0 s3 s4 s5 s6 s7 s8 s9 s10 s11 s12 s13 s14 s15 s16 s17 s18 s19 s20 s21 s22 s23 s24 s25 s26 s27 s28 s29 s30 s31 s32 s33 s34 s35 s36 s37 s38 s39 s40 s41 s42 s43 s44 s45 s46 s47 s48 s49 : Value} (hx2 : w0.heap[b]? = some (.cells #[.int .i64 k, .int .i64 n, .slice (some ⟨gb, off, none⟩) 1 c] 24 (0, 0))) (hgb : gb < b) (hc0 : w0.cell? ⟨gb, off, none⟩ = some (.int .i64 xk0)) (hc1 : w0.cell? ⟨gb, off + 1, none⟩ = some (.int .i64 xn0)) (hc2 : w0.cell? ⟨gb, off + 2, none⟩ = some (.slice A0 m0 c0)) (hof0 : ∀ w, (∀ k, k < b → w.heap[k]? = w0.heap[k]?) → w0.heap.size ≤ w.heap.size → Calls Try.prog 35 #[.agg #[.int .i64 xk0, .int .i64 xn0, .slice A0 m0 c0], .slice Av nv cv] w fun e w' => e = .returned (.int .i64 r0) ∧ Below w.heap.size w w') (hwr : IntKind.i64.wrap (r0 + n) = r0 + n)
    (hend : ∀ (w' : World), Chg (fun k => False ∨ False) w0 w' → Q .normal { tmps := (s0 :: (.slice Av nv cv : Value) :: (.pointer (some ⟨b, 0, none⟩) : Value) :: s3 :: (.int .i64 (min (r0 + n) 1099511627776) : Value) :: s5 :: s6 :: s7 :: s8 :: s9 :: s10 :: s11 :: s12 :: s13 :: s14 :: s15 :: s16 :: s17 :: s18 :: s19 :: s20 :: s21 :: s22 :: s23 :: s24 :: s25 :: s26 :: (.pointer (some ⟨b, 2, none⟩) : Value) :: (.slice (some ⟨gb, off, none⟩) 1 c : Value) :: (.pointer (some ⟨gb, off, none⟩) : Value) :: (.agg #[.int .i64 xk0, .int .i64 xn0, .slice A0 m0 c0] : Value) :: (.slice Av nv cv : Value) :: (.int .i64 r0 : Value) :: (.pointer (some ⟨b, 1, none⟩) : Value) :: (.int .i64 n : Value) :: (.int .i64 (r0 + n) : Value) :: (.int .i64 (min (r0 + n) 1099511627776) : Value) :: s37 :: s38 :: s39 :: s40 :: s41 :: s42 :: s43 :: s44 :: s45 :: s46 :: s47 :: s48 :: s49 :: ([] : List Value)).toArray, defers := [] } w') :
    (Code.region id vl9_ops.toArray true).wp Try.prog Q { tmps := (s0 :: (.slice Av nv cv : Value) :: (.pointer (some ⟨b, 0, none⟩) : Value) :: s3 :: s4 :: s5 :: s6 :: s7 :: s8 :: s9 :: s10 :: s11 :: s12 :: s13 :: s14 :: s15 :: s16 :: s17 :: s18 :: s19 :: s20 :: s21 :: s22 :: s23 :: s24 :: s25 :: s26 :: s27 :: s28 :: s29 :: s30 :: s31 :: s32 :: s33 :: s34 :: s35 :: s36 :: s37 :: s38 :: s39 :: s40 :: s41 :: s42 :: s43 :: s44 :: s45 :: s46 :: s47 :: s48 :: s49 :: ([] : List Value)).toArray, defers := [] } w0 := by
  refine wp_region_est (by kernel_rfl) (est2 0 0 (fun _ => False) (fun _ => False)) vl9_C (vl9_F w0 b k n gb off c Av nv cv xk0 xn0 A0 m0 c0 r0 ) (est2_dis (fun _ h _ => h)) (est2_range (fun _ h => h.elim) (fun _ h => h.elim)) (by rfl) (by kernel_rfl) (vl9_obs w0.drew b k n gb off c Av nv cv xk0 xn0 A0 m0 c0 r0  hx2 hgb hc0 hc1 hc2 hof0 hwr _ _ rfl rfl) ?_
  intro a w' O hd hs hb hf hf2 ha hsame
  have x0 : a.tmps.getD 0 undef = s0 := hsame 0 (nwB.spec (by kernel_rfl))
  have x1 : a.tmps.getD 1 undef = .slice Av nv cv := hsame 1 (nwB.spec (by kernel_rfl))
  have x2 : a.tmps.getD 2 undef = .pointer (some ⟨b, 0, none⟩) := hsame 2 (nwB.spec (by kernel_rfl))
  have x3 : a.tmps.getD 3 undef = s3 := hsame 3 (nwB.spec (by kernel_rfl))
  have x4 : a.tmps.getD 4 undef = .int .i64 (min (r0 + n) 1099511627776) := (hf 10 _ 4 rfl rfl (by decide)).1
  have x5 : a.tmps.getD 5 undef = s5 := hsame 5 (nwB.spec (by kernel_rfl))
  have x6 : a.tmps.getD 6 undef = s6 := hsame 6 (nwB.spec (by kernel_rfl))
  have x7 : a.tmps.getD 7 undef = s7 := hsame 7 (nwB.spec (by kernel_rfl))
  have x8 : a.tmps.getD 8 undef = s8 := hsame 8 (nwB.spec (by kernel_rfl))
  have x9 : a.tmps.getD 9 undef = s9 := hsame 9 (nwB.spec (by kernel_rfl))
  have x10 : a.tmps.getD 10 undef = s10 := hsame 10 (nwB.spec (by kernel_rfl))
  have x11 : a.tmps.getD 11 undef = s11 := hsame 11 (nwB.spec (by kernel_rfl))
  have x12 : a.tmps.getD 12 undef = s12 := hsame 12 (nwB.spec (by kernel_rfl))
  have x13 : a.tmps.getD 13 undef = s13 := hsame 13 (nwB.spec (by kernel_rfl))
  have x14 : a.tmps.getD 14 undef = s14 := hsame 14 (nwB.spec (by kernel_rfl))
  have x15 : a.tmps.getD 15 undef = s15 := hsame 15 (nwB.spec (by kernel_rfl))
  have x16 : a.tmps.getD 16 undef = s16 := hsame 16 (nwB.spec (by kernel_rfl))
  have x17 : a.tmps.getD 17 undef = s17 := hsame 17 (nwB.spec (by kernel_rfl))
  have x18 : a.tmps.getD 18 undef = s18 := hsame 18 (nwB.spec (by kernel_rfl))
  have x19 : a.tmps.getD 19 undef = s19 := hsame 19 (nwB.spec (by kernel_rfl))
  have x20 : a.tmps.getD 20 undef = s20 := hsame 20 (nwB.spec (by kernel_rfl))
  have x21 : a.tmps.getD 21 undef = s21 := hsame 21 (nwB.spec (by kernel_rfl))
  have x22 : a.tmps.getD 22 undef = s22 := hsame 22 (nwB.spec (by kernel_rfl))
  have x23 : a.tmps.getD 23 undef = s23 := hsame 23 (nwB.spec (by kernel_rfl))
  have x24 : a.tmps.getD 24 undef = s24 := hsame 24 (nwB.spec (by kernel_rfl))
  have x25 : a.tmps.getD 25 undef = s25 := hsame 25 (nwB.spec (by kernel_rfl))
  have x26 : a.tmps.getD 26 undef = s26 := hsame 26 (nwB.spec (by kernel_rfl))
  have x27 : a.tmps.getD 27 undef = .pointer (some ⟨b, 2, none⟩) := (hf 0 _ 27 rfl rfl (by decide)).1
  have x28 : a.tmps.getD 28 undef = .slice (some ⟨gb, off, none⟩) 1 c := (hf 1 _ 28 rfl rfl (by decide)).1
  have x29 : a.tmps.getD 29 undef = .pointer (some ⟨gb, off, none⟩) := (hf 2 _ 29 rfl rfl (by decide)).1
  have x30 : a.tmps.getD 30 undef = .agg #[.int .i64 xk0, .int .i64 xn0, .slice A0 m0 c0] := (hf 3 _ 30 rfl rfl (by decide)).1
  have x31 : a.tmps.getD 31 undef = .slice Av nv cv := (hf 4 _ 31 rfl rfl (by decide)).1
  have x32 : a.tmps.getD 32 undef = .int .i64 r0 := (hf 5 _ 32 rfl rfl (by decide)).1
  have x33 : a.tmps.getD 33 undef = .pointer (some ⟨b, 1, none⟩) := (hf 6 _ 33 rfl rfl (by decide)).1
  have x34 : a.tmps.getD 34 undef = .int .i64 n := (hf 7 _ 34 rfl rfl (by decide)).1
  have x35 : a.tmps.getD 35 undef = .int .i64 (r0 + n) := (hf 8 _ 35 rfl rfl (by decide)).1
  have x36 : a.tmps.getD 36 undef = .int .i64 (min (r0 + n) 1099511627776) := (hf 9 _ 36 rfl rfl (by decide)).1
  have x37 : a.tmps.getD 37 undef = s37 := hsame 37 (nwB.spec (by kernel_rfl))
  have x38 : a.tmps.getD 38 undef = s38 := hsame 38 (nwB.spec (by kernel_rfl))
  have x39 : a.tmps.getD 39 undef = s39 := hsame 39 (nwB.spec (by kernel_rfl))
  have x40 : a.tmps.getD 40 undef = s40 := hsame 40 (nwB.spec (by kernel_rfl))
  have x41 : a.tmps.getD 41 undef = s41 := hsame 41 (nwB.spec (by kernel_rfl))
  have x42 : a.tmps.getD 42 undef = s42 := hsame 42 (nwB.spec (by kernel_rfl))
  have x43 : a.tmps.getD 43 undef = s43 := hsame 43 (nwB.spec (by kernel_rfl))
  have x44 : a.tmps.getD 44 undef = s44 := hsame 44 (nwB.spec (by kernel_rfl))
  have x45 : a.tmps.getD 45 undef = s45 := hsame 45 (nwB.spec (by kernel_rfl))
  have x46 : a.tmps.getD 46 undef = s46 := hsame 46 (nwB.spec (by kernel_rfl))
  have x47 : a.tmps.getD 47 undef = s47 := hsame 47 (nwB.spec (by kernel_rfl))
  have x48 : a.tmps.getD 48 undef = s48 := hsame 48 (nwB.spec (by kernel_rfl))
  have x49 : a.tmps.getD 49 undef = s49 := hsame 49 (nwB.spec (by kernel_rfl))
  have hl : a.tmps = (s0 :: (.slice Av nv cv : Value) :: (.pointer (some ⟨b, 0, none⟩) : Value) :: s3 :: (.int .i64 (min (r0 + n) 1099511627776) : Value) :: s5 :: s6 :: s7 :: s8 :: s9 :: s10 :: s11 :: s12 :: s13 :: s14 :: s15 :: s16 :: s17 :: s18 :: s19 :: s20 :: s21 :: s22 :: s23 :: s24 :: s25 :: s26 :: (.pointer (some ⟨b, 2, none⟩) : Value) :: (.slice (some ⟨gb, off, none⟩) 1 c : Value) :: (.pointer (some ⟨gb, off, none⟩) : Value) :: (.agg #[.int .i64 xk0, .int .i64 xn0, .slice A0 m0 c0] : Value) :: (.slice Av nv cv : Value) :: (.int .i64 r0 : Value) :: (.pointer (some ⟨b, 1, none⟩) : Value) :: (.int .i64 n : Value) :: (.int .i64 (r0 + n) : Value) :: (.int .i64 (min (r0 + n) 1099511627776) : Value) :: s37 :: s38 :: s39 :: s40 :: s41 :: s42 :: s43 :: s44 :: s45 :: s46 :: s47 :: s48 :: s49 :: ([] : List Value)).toArray := by
    have h := lit a.tmps 50 hs
    have e : ((List.range 50).map (fun i => a.tmps.getD i undef)).toArray = ((a.tmps.getD 0 undef : Value) :: (a.tmps.getD 1 undef : Value) :: (a.tmps.getD 2 undef : Value) :: (a.tmps.getD 3 undef : Value) :: (a.tmps.getD 4 undef : Value) :: (a.tmps.getD 5 undef : Value) :: (a.tmps.getD 6 undef : Value) :: (a.tmps.getD 7 undef : Value) :: (a.tmps.getD 8 undef : Value) :: (a.tmps.getD 9 undef : Value) :: (a.tmps.getD 10 undef : Value) :: (a.tmps.getD 11 undef : Value) :: (a.tmps.getD 12 undef : Value) :: (a.tmps.getD 13 undef : Value) :: (a.tmps.getD 14 undef : Value) :: (a.tmps.getD 15 undef : Value) :: (a.tmps.getD 16 undef : Value) :: (a.tmps.getD 17 undef : Value) :: (a.tmps.getD 18 undef : Value) :: (a.tmps.getD 19 undef : Value) :: (a.tmps.getD 20 undef : Value) :: (a.tmps.getD 21 undef : Value) :: (a.tmps.getD 22 undef : Value) :: (a.tmps.getD 23 undef : Value) :: (a.tmps.getD 24 undef : Value) :: (a.tmps.getD 25 undef : Value) :: (a.tmps.getD 26 undef : Value) :: (a.tmps.getD 27 undef : Value) :: (a.tmps.getD 28 undef : Value) :: (a.tmps.getD 29 undef : Value) :: (a.tmps.getD 30 undef : Value) :: (a.tmps.getD 31 undef : Value) :: (a.tmps.getD 32 undef : Value) :: (a.tmps.getD 33 undef : Value) :: (a.tmps.getD 34 undef : Value) :: (a.tmps.getD 35 undef : Value) :: (a.tmps.getD 36 undef : Value) :: (a.tmps.getD 37 undef : Value) :: (a.tmps.getD 38 undef : Value) :: (a.tmps.getD 39 undef : Value) :: (a.tmps.getD 40 undef : Value) :: (a.tmps.getD 41 undef : Value) :: (a.tmps.getD 42 undef : Value) :: (a.tmps.getD 43 undef : Value) :: (a.tmps.getD 44 undef : Value) :: (a.tmps.getD 45 undef : Value) :: (a.tmps.getD 46 undef : Value) :: (a.tmps.getD 47 undef : Value) :: (a.tmps.getD 48 undef : Value) :: (a.tmps.getD 49 undef : Value) :: ([] : List Value)).toArray := rfl
    rw [e, x0, x1, x2, x3, x4, x5, x6, x7, x8, x9, x10, x11, x12, x13, x14, x15, x16, x17, x18, x19, x20, x21, x22, x23, x24, x25, x26, x27, x28, x29, x30, x31, x32, x33, x34, x35, x36, x37, x38, x39, x40, x41, x42, x43, x44, x45, x46, x47, x48, x49] at h
    exact h
  obtain ⟨tmps, defers⟩ := a
  obtain rfl : defers = [] := hd
  have hl' : tmps = _ := hl
  rw [hl']
  have hb' := est2_chg hb
  exact hend w' ⟨hb'.os, hb'.tape, hb'.output, hb'.size, hb'.block⟩

def vl10_ops : List Oper := [
  { dst := some 37, op := Go.Op.fieldAddr 24 (Go.Operand.tmp 2) 2, type := 0, pos := "ref.go:235", after := #[], guard := none },
  { dst := some 38, op := Go.Op.load 22 (Go.Operand.tmp 37), type := 22, pos := "ref.go:235", after := #[{ on := 0, ground := Go.Ground.data }], guard := none },
  { dst := some 39, op := Go.Op.indexAddr 22 (Go.Operand.tmp 38) (Go.Operand.const (Go.Value.int Go.IntKind.i64 0)), type := 0, pos := "ref.go:235", after := #[{ on := 1, ground := Go.Ground.data }], guard := none },
  { dst := some 40, op := Go.Op.load 24 (Go.Operand.tmp 39), type := 24, pos := "ref.go:235", after := #[{ on := 2, ground := Go.Ground.data }], guard := none },
  { dst := some 41, op := Go.Op.move (Go.Operand.tmp 1), type := 29, pos := "ref.go:235", after := #[], guard := none },
  { dst := some 42, op := Go.Op.call { callee := Go.Callee.value (Go.Operand.func 35), args := #[Go.Operand.tmp 40, Go.Operand.tmp 41], argTypes := #[24, 29] }, type := 3, pos := "ref.go:235", after := #[{ on := 3, ground := Go.Ground.data }, { on := 4, ground := Go.Ground.data }], guard := none },
  { dst := some 43, op := Go.Op.fieldAddr 24 (Go.Operand.tmp 2) 2, type := 0, pos := "ref.go:235", after := #[], guard := none },
  { dst := some 44, op := Go.Op.load 22 (Go.Operand.tmp 43), type := 22, pos := "ref.go:235", after := #[{ on := 6, ground := Go.Ground.data }], guard := none },
  { dst := some 45, op := Go.Op.indexAddr 22 (Go.Operand.tmp 44) (Go.Operand.const (Go.Value.int Go.IntKind.i64 1)), type := 0, pos := "ref.go:235", after := #[{ on := 7, ground := Go.Ground.data }], guard := none },
  { dst := some 46, op := Go.Op.load 24 (Go.Operand.tmp 45), type := 24, pos := "ref.go:235", after := #[{ on := 8, ground := Go.Ground.data }], guard := none },
  { dst := some 47, op := Go.Op.move (Go.Operand.tmp 1), type := 29, pos := "ref.go:235", after := #[], guard := none },
  { dst := some 48, op := Go.Op.call { callee := Go.Callee.value (Go.Operand.func 35), args := #[Go.Operand.tmp 46, Go.Operand.tmp 47], argTypes := #[24, 29] }, type := 3, pos := "ref.go:235", after := #[{ on := 9, ground := Go.Ground.data }, { on := 10, ground := Go.Ground.data }, { on := 5, ground := Go.Ground.chain }], guard := none },
  { dst := some 49, op := Go.Op.call { callee := Go.Callee.builtin Go.Builtin.max, args := #[Go.Operand.tmp 42, Go.Operand.tmp 48], argTypes := #[3, 3] }, type := 3, pos := "ref.go:235", after := #[{ on := 5, ground := Go.Ground.data }, { on := 11, ground := Go.Ground.data }], guard := none },
  { dst := some 4, op := Go.Op.assign (Go.Operand.tmp 49), type := 3, pos := "ref.go:235", after := #[{ on := 12, ground := Go.Ground.data }, { on := 11, ground := Go.Ground.chain }, { on := 0, ground := Go.Ground.phase }, { on := 1, ground := Go.Ground.phase }, { on := 2, ground := Go.Ground.phase }, { on := 3, ground := Go.Ground.phase }, { on := 4, ground := Go.Ground.phase }, { on := 5, ground := Go.Ground.phase }, { on := 6, ground := Go.Ground.phase }, { on := 7, ground := Go.Ground.phase }, { on := 8, ground := Go.Ground.phase }, { on := 9, ground := Go.Ground.phase }, { on := 10, ground := Go.Ground.phase }, { on := 11, ground := Go.Ground.phase }, { on := 12, ground := Go.Ground.phase }], guard := none }]
def vl10_F (w0 : World) (b : Nat) (k n : Int) (gb off c : Nat) (Av : Option Addr) (nv cv : Nat) (xk0 xn0 : Int) (A0 : Option Addr) (m0 c0 : Nat) (r0 : Int) (xk1 xn1 : Int) (A1 : Option Addr) (m1 c1 : Nat) (r1 : Int)  : Nat → (Nat → Value) → Value → World → (Nat → Prop) → Prop := fun rix => match rix with
  | 0 => fun _ v _ _ => v = .pointer (some ⟨b, 2, none⟩)
  | 1 => fun _ v _ _ => v = .slice (some ⟨gb, off, none⟩) 2 c
  | 2 => fun _ v _ _ => v = .pointer (some ⟨gb, off, none⟩)
  | 3 => fun _ v _ _ => v = .agg #[.int .i64 xk0, .int .i64 xn0, .slice A0 m0 c0]
  | 4 => fun _ v _ _ => v = .slice Av nv cv
  | 5 => fun _ v _ _ => v = .int .i64 r0
  | 6 => fun _ v _ _ => v = .pointer (some ⟨b, 2, none⟩)
  | 7 => fun _ v _ _ => v = .slice (some ⟨gb, off, none⟩) 2 c
  | 8 => fun _ v _ _ => v = .pointer (some ⟨gb, off + 3, none⟩)
  | 9 => fun _ v _ _ => v = .agg #[.int .i64 xk1, .int .i64 xn1, .slice A1 m1 c1]
  | 10 => fun _ v _ _ => v = .slice Av nv cv
  | 11 => fun _ v _ _ => v = .int .i64 r1
  | 12 => fun _ v _ _ => v = .int .i64 (max r0 r1)
  | 13 => fun _ v _ _ => v = .int .i64 (max r0 r1)
  | _ => fun _ _ _ _ => True
def vl10_C : Nat → List Nat := fun rix => match rix with
  | _ => []
theorem vl10_nw1 : nwB vl10_ops.toArray 1 = true := by kernel_rfl
theorem vl10_nw2 : nwB vl10_ops.toArray 2 = true := by kernel_rfl
set_option maxRecDepth 100000 in
set_option maxHeartbeats 8000000 in
theorem vl10_obs (w0 : World) (b : Nat) (k n : Int) (gb off c : Nat) (Av : Option Addr) (nv cv : Nat) (xk0 xn0 : Int) (A0 : Option Addr) (m0 c0 : Nat) (r0 : Int) (xk1 xn1 : Int) (A1 : Option Addr) (m1 c1 : Nat) (r1 : Int)  (hx2 : w0.heap[b]? = some (.cells #[.int .i64 k, .int .i64 n, .slice (some ⟨gb, off, none⟩) 2 c] 24 (0, 0))) (hgb : gb < b) (hc0 : w0.cell? ⟨gb, off, none⟩ = some (.int .i64 xk0)) (hc1 : w0.cell? ⟨gb, off + 1, none⟩ = some (.int .i64 xn0)) (hc2 : w0.cell? ⟨gb, off + 2, none⟩ = some (.slice A0 m0 c0)) (hc3 : w0.cell? ⟨gb, off + 3, none⟩ = some (.int .i64 xk1)) (hc4 : w0.cell? ⟨gb, off + 4, none⟩ = some (.int .i64 xn1)) (hc5 : w0.cell? ⟨gb, off + 5, none⟩ = some (.slice A1 m1 c1)) (hof0 : ∀ w, (∀ k, k < b → w.heap[k]? = w0.heap[k]?) → w0.heap.size ≤ w.heap.size → Calls Try.prog 35 #[.agg #[.int .i64 xk0, .int .i64 xn0, .slice A0 m0 c0], .slice Av nv cv] w fun e w' => e = .returned (.int .i64 r0) ∧ Below w.heap.size w w') (hof1 : ∀ w, (∀ k, k < b → w.heap[k]? = w0.heap[k]?) → w0.heap.size ≤ w.heap.size → Calls Try.prog 35 #[.agg #[.int .i64 xk1, .int .i64 xn1, .slice A1 m1 c1], .slice Av nv cv] w fun e w' => e = .returned (.int .i64 r1) ∧ Below w.heap.size w w')  (Q : Exit → Act → World → Prop) (a0 : Act) (hi1 : a0.tmps.getD 1 undef = .slice Av nv cv) (hi2 : a0.tmps.getD 2 undef = .pointer (some ⟨b, 0, none⟩)) :
    ObsE Try.prog vl10_ops.toArray Q (est2 0 0 (fun _ => False) (fun _ => False)) vl10_C (vl10_F w0 b k n gb off c Av nv cv xk0 xn0 A0 m0 c0 r0 xk1 xn1 A1 m1 c1 r1 ) a0 w0 vl10_ops.toArray.toList 0 := by
  have nw1 := vl10_nw1
  have nw2 := vl10_nw2
  refine ⟨?_, ?_, ?_, ?_, ?_, ?_, ?_, ?_, ?_, ?_, ?_, ?_, ?_, ?_, trivial⟩
  · refine ⟨⟨fun τ => stableE_det _, leans_not⟩, ?_⟩
    intro a w O hk
    have e2 : a.eval (.tmp 2) = .pointer (some ⟨b, 0, none⟩) := (hk.init 2 (initialB_of_nw nw2)).trans hi2
    exact obE_run (wanted_none rfl) (by unfold execOp; simp only []; rw [e2]; go_simp) rfl
  · refine ⟨⟨fun τ => stableE_det _, leans_not⟩, ?_⟩
    intro a w O hk
    have e37 : a.eval (.tmp 37) = .pointer (some ⟨b, 2, none⟩) := hk.fact 0 _ 37 rfl rfl rfl rfl
    have x2 := hk.world.still hx2 (fun ⟨_, h⟩ => h.elim And.right And.right)
    obtain ⟨p0, p1, p2, -, -, -⟩ := row3 x2
    have hfx : ∀ k, k < b → w.heap[k]? = w0.heap[k]? := fun k hkb => hk.fix k (est2_fix (by have := blk_lt hx2; omega) (fun h => h) (fun h => h))
    have hcc : ∀ j, w.cell? ⟨gb, j, none⟩ = w0.cell? ⟨gb, j, none⟩ := fun j => cell_same (hfx _ hgb)
    have q0 := (hcc _).trans hc0
    have q1 := (hcc _).trans hc1
    have q2 := (hcc _).trans hc2
    have q3 := (hcc _).trans hc3
    have q4 := (hcc _).trans hc4
    have q5 := (hcc _).trans hc5
    exact obE_run (wanted_none rfl) (by unfold execOp; simp only []; rw [e37]; go_simp) rfl
  · refine ⟨⟨fun τ => stableE_det _, leans_not⟩, ?_⟩
    intro a w O hk
    have e38 : a.eval (.tmp 38) = .slice (some ⟨gb, off, none⟩) 2 c := hk.fact 1 _ 38 rfl rfl rfl rfl
    have x2 := hk.world.still hx2 (fun ⟨_, h⟩ => h.elim And.right And.right)
    obtain ⟨p0, p1, p2, -, -, -⟩ := row3 x2
    have hfx : ∀ k, k < b → w.heap[k]? = w0.heap[k]? := fun k hkb => hk.fix k (est2_fix (by have := blk_lt hx2; omega) (fun h => h) (fun h => h))
    have hcc : ∀ j, w.cell? ⟨gb, j, none⟩ = w0.cell? ⟨gb, j, none⟩ := fun j => cell_same (hfx _ hgb)
    have q0 := (hcc _).trans hc0
    have q1 := (hcc _).trans hc1
    have q2 := (hcc _).trans hc2
    have q3 := (hcc _).trans hc3
    have q4 := (hcc _).trans hc4
    have q5 := (hcc _).trans hc5
    exact obE_run (wanted_none rfl) (by unfold execOp; simp only []; rw [e38]; go_simp) rfl
  · refine ⟨⟨fun τ => stableE_det _, leans_not⟩, ?_⟩
    intro a w O hk
    have e39 : a.eval (.tmp 39) = .pointer (some ⟨gb, off, none⟩) := hk.fact 2 _ 39 rfl rfl rfl rfl
    have x2 := hk.world.still hx2 (fun ⟨_, h⟩ => h.elim And.right And.right)
    obtain ⟨p0, p1, p2, -, -, -⟩ := row3 x2
    have hfx : ∀ k, k < b → w.heap[k]? = w0.heap[k]? := fun k hkb => hk.fix k (est2_fix (by have := blk_lt hx2; omega) (fun h => h) (fun h => h))
    have hcc : ∀ j, w.cell? ⟨gb, j, none⟩ = w0.cell? ⟨gb, j, none⟩ := fun j => cell_same (hfx _ hgb)
    have q0 := (hcc _).trans hc0
    have q1 := (hcc _).trans hc1
    have q2 := (hcc _).trans hc2
    have q3 := (hcc _).trans hc3
    have q4 := (hcc _).trans hc4
    have q5 := (hcc _).trans hc5
    exact obE_run (wanted_none rfl) (by unfold execOp; simp only []; rw [e39]; go_simp) rfl
  · refine ⟨⟨fun τ => stableE_det _, leans_not⟩, ?_⟩
    intro a w O hk
    have e1 : a.eval (.tmp 1) = .slice Av nv cv := (hk.init 1 (initialB_of_nw nw1)).trans hi1
    exact toE (ob_move rfl e1 (wanted_none rfl) rfl)
  · refine ⟨⟨fun τ => stableE_det _, leans_not⟩, ?_⟩
    intro a w O hk
    have e40 : a.eval (.tmp 40) = .agg #[.int .i64 xk0, .int .i64 xn0, .slice A0 m0 c0] := hk.fact 3 _ 40 rfl rfl rfl rfl
    have e41 : a.eval (.tmp 41) = .slice Av nv cv := hk.fact 4 _ 41 rfl rfl rfl rfl
    have x2 := hk.world.still hx2 (fun ⟨_, h⟩ => h.elim And.right And.right)
    obtain ⟨p0, p1, p2, -, -, -⟩ := row3 x2
    have hfx : ∀ k, k < b → w.heap[k]? = w0.heap[k]? := fun k hkb => hk.fix k (est2_fix (by have := blk_lt hx2; omega) (fun h => h) (fun h => h))
    have hcc : ∀ j, w.cell? ⟨gb, j, none⟩ = w0.cell? ⟨gb, j, none⟩ := fun j => cell_same (hfx _ hgb)
    have q0 := (hcc _).trans hc0
    have q1 := (hcc _).trans hc1
    have q2 := (hcc _).trans hc2
    have q3 := (hcc _).trans hc3
    have q4 := (hcc _).trans hc4
    have q5 := (hcc _).trans hc5
    exact obE_callV #[.agg #[.int .i64 xk0, .int .i64 xn0, .slice A0 m0 c0], .slice Av nv cv] rfl rfl rfl rfl (by simp only [List.map_cons, List.map_nil]; rw [e40, e41]) (wanted_none rfl) (hof0 w hfx hk.world.size)
  · refine ⟨⟨fun τ => stableE_det _, leans_not⟩, ?_⟩
    intro a w O hk
    have e2 : a.eval (.tmp 2) = .pointer (some ⟨b, 0, none⟩) := (hk.init 2 (initialB_of_nw nw2)).trans hi2
    exact obE_run (wanted_none rfl) (by unfold execOp; simp only []; rw [e2]; go_simp) rfl
  · refine ⟨⟨fun τ => stableE_det _, leans_not⟩, ?_⟩
    intro a w O hk
    have e43 : a.eval (.tmp 43) = .pointer (some ⟨b, 2, none⟩) := hk.fact 6 _ 43 rfl rfl rfl rfl
    have x2 := hk.world.still hx2 (fun ⟨_, h⟩ => h.elim And.right And.right)
    obtain ⟨p0, p1, p2, -, -, -⟩ := row3 x2
    have hfx : ∀ k, k < b → w.heap[k]? = w0.heap[k]? := fun k hkb => hk.fix k (est2_fix (by have := blk_lt hx2; omega) (fun h => h) (fun h => h))
    have hcc : ∀ j, w.cell? ⟨gb, j, none⟩ = w0.cell? ⟨gb, j, none⟩ := fun j => cell_same (hfx _ hgb)
    have q0 := (hcc _).trans hc0
    have q1 := (hcc _).trans hc1
    have q2 := (hcc _).trans hc2
    have q3 := (hcc _).trans hc3
    have q4 := (hcc _).trans hc4
    have q5 := (hcc _).trans hc5
    exact obE_run (wanted_none rfl) (by unfold execOp; simp only []; rw [e43]; go_simp) rfl
  · refine ⟨⟨fun τ => stableE_det _, leans_not⟩, ?_⟩
    intro a w O hk
    have e44 : a.eval (.tmp 44) = .slice (some ⟨gb, off, none⟩) 2 c := hk.fact 7 _ 44 rfl rfl rfl rfl
    have x2 := hk.world.still hx2 (fun ⟨_, h⟩ => h.elim And.right And.right)
    obtain ⟨p0, p1, p2, -, -, -⟩ := row3 x2
    have hfx : ∀ k, k < b → w.heap[k]? = w0.heap[k]? := fun k hkb => hk.fix k (est2_fix (by have := blk_lt hx2; omega) (fun h => h) (fun h => h))
    have hcc : ∀ j, w.cell? ⟨gb, j, none⟩ = w0.cell? ⟨gb, j, none⟩ := fun j => cell_same (hfx _ hgb)
    have q0 := (hcc _).trans hc0
    have q1 := (hcc _).trans hc1
    have q2 := (hcc _).trans hc2
    have q3 := (hcc _).trans hc3
    have q4 := (hcc _).trans hc4
    have q5 := (hcc _).trans hc5
    exact obE_run (wanted_none rfl) (by unfold execOp; simp only []; rw [e44]; go_simp) rfl
  · refine ⟨⟨fun τ => stableE_det _, leans_not⟩, ?_⟩
    intro a w O hk
    have e45 : a.eval (.tmp 45) = .pointer (some ⟨gb, off + 3, none⟩) := hk.fact 8 _ 45 rfl rfl rfl rfl
    have x2 := hk.world.still hx2 (fun ⟨_, h⟩ => h.elim And.right And.right)
    obtain ⟨p0, p1, p2, -, -, -⟩ := row3 x2
    have hfx : ∀ k, k < b → w.heap[k]? = w0.heap[k]? := fun k hkb => hk.fix k (est2_fix (by have := blk_lt hx2; omega) (fun h => h) (fun h => h))
    have hcc : ∀ j, w.cell? ⟨gb, j, none⟩ = w0.cell? ⟨gb, j, none⟩ := fun j => cell_same (hfx _ hgb)
    have q0 := (hcc _).trans hc0
    have q1 := (hcc _).trans hc1
    have q2 := (hcc _).trans hc2
    have q3 := (hcc _).trans hc3
    have q4 := (hcc _).trans hc4
    have q5 := (hcc _).trans hc5
    exact obE_run (wanted_none rfl) (by unfold execOp; simp only []; rw [e45]; go_simp) rfl
  · refine ⟨⟨fun τ => stableE_det _, leans_not⟩, ?_⟩
    intro a w O hk
    have e1 : a.eval (.tmp 1) = .slice Av nv cv := (hk.init 1 (initialB_of_nw nw1)).trans hi1
    exact toE (ob_move rfl e1 (wanted_none rfl) rfl)
  · refine ⟨⟨fun τ => stableE_det _, leans_not⟩, ?_⟩
    intro a w O hk
    have e46 : a.eval (.tmp 46) = .agg #[.int .i64 xk1, .int .i64 xn1, .slice A1 m1 c1] := hk.fact 9 _ 46 rfl rfl rfl rfl
    have e47 : a.eval (.tmp 47) = .slice Av nv cv := hk.fact 10 _ 47 rfl rfl rfl rfl
    have x2 := hk.world.still hx2 (fun ⟨_, h⟩ => h.elim And.right And.right)
    obtain ⟨p0, p1, p2, -, -, -⟩ := row3 x2
    have hfx : ∀ k, k < b → w.heap[k]? = w0.heap[k]? := fun k hkb => hk.fix k (est2_fix (by have := blk_lt hx2; omega) (fun h => h) (fun h => h))
    have hcc : ∀ j, w.cell? ⟨gb, j, none⟩ = w0.cell? ⟨gb, j, none⟩ := fun j => cell_same (hfx _ hgb)
    have q0 := (hcc _).trans hc0
    have q1 := (hcc _).trans hc1
    have q2 := (hcc _).trans hc2
    have q3 := (hcc _).trans hc3
    have q4 := (hcc _).trans hc4
    have q5 := (hcc _).trans hc5
    exact obE_callV #[.agg #[.int .i64 xk1, .int .i64 xn1, .slice A1 m1 c1], .slice Av nv cv] rfl rfl rfl rfl (by simp only [List.map_cons, List.map_nil]; rw [e46, e47]) (wanted_none rfl) (hof1 w hfx hk.world.size)
  · refine ⟨⟨fun τ => stableE_det _, leans_not⟩, ?_⟩
    intro a w O hk
    have e42 : a.eval (.tmp 42) = .int .i64 r0 := hk.fact 5 _ 42 rfl rfl rfl rfl
    have e48 : a.eval (.tmp 48) = .int .i64 r1 := hk.fact 11 _ 48 rfl rfl rfl rfl
    exact obE_maxInt rfl e42 e48 (wanted_none rfl) rfl
  · refine ⟨⟨fun τ => stableE_det _, leans_not⟩, ?_⟩
    intro a w O hk
    have e49 : a.eval (.tmp 49) = .int .i64 (max r0 r1) := hk.fact 12 _ 49 rfl rfl rfl rfl
    exact toE (ob_assign rfl e49 (wanted_none rfl) rfl)
set_option maxRecDepth 100000 in
set_option maxHeartbeats 8000000 in
theorem vl10_region {Q : Exit → Act → World → Prop} {id : Nat} (w0 : World) (b : Nat) (k n : Int) (gb off c : Nat) (Av : Option Addr) (nv cv : Nat) (xk0 xn0 : Int) (A0 : Option Addr) (m0 c0 : Nat) (r0 : Int) (xk1 xn1 : Int) (A1 : Option Addr) (m1 c1 : Nat) (r1 : Int)  {s0 s3 s4 s5 s6 s7 s8 s9 s10 s11 s12 s13 s14 s15 s16 s17 s18 s19 s20 s21 s22 s23 s24 s25 s26 s27 s28 s29 s30 s31 s32 s33 s34 s35 s36 s37 s38 s39 s40 s41 s42 s43 s44 s45 s46 s47 s48 s49 : Value} (hx2 : w0.heap[b]? = some (.cells #[.int .i64 k, .int .i64 n, .slice (some ⟨gb, off, none⟩) 2 c] 24 (0, 0))) (hgb : gb < b) (hc0 : w0.cell? ⟨gb, off, none⟩ = some (.int .i64 xk0)) (hc1 : w0.cell? ⟨gb, off + 1, none⟩ = some (.int .i64 xn0)) (hc2 : w0.cell? ⟨gb, off + 2, none⟩ = some (.slice A0 m0 c0)) (hc3 : w0.cell? ⟨gb, off + 3, none⟩ = some (.int .i64 xk1)) (hc4 : w0.cell? ⟨gb, off + 4, none⟩ = some (.int .i64 xn1)) (hc5 : w0.cell? ⟨gb, off + 5, none⟩ = some (.slice A1 m1 c1)) (hof0 : ∀ w, (∀ k, k < b → w.heap[k]? = w0.heap[k]?) → w0.heap.size ≤ w.heap.size → Calls Try.prog 35 #[.agg #[.int .i64 xk0, .int .i64 xn0, .slice A0 m0 c0], .slice Av nv cv] w fun e w' => e = .returned (.int .i64 r0) ∧ Below w.heap.size w w') (hof1 : ∀ w, (∀ k, k < b → w.heap[k]? = w0.heap[k]?) → w0.heap.size ≤ w.heap.size → Calls Try.prog 35 #[.agg #[.int .i64 xk1, .int .i64 xn1, .slice A1 m1 c1], .slice Av nv cv] w fun e w' => e = .returned (.int .i64 r1) ∧ Below w.heap.size w w') 
    (hend : ∀ (w' : World), Chg (fun k => False ∨ False) w0 w' → Q .normal { tmps := (s0 :: (.slice Av nv cv : Value) :: (.pointer (some ⟨b, 0, none⟩) : Value) :: s3 :: (.int .i64 (max r0 r1) : Value) :: s5 :: s6 :: s7 :: s8 :: s9 :: s10 :: s11 :: s12 :: s13 :: s14 :: s15 :: s16 :: s17 :: s18 :: s19 :: s20 :: s21 :: s22 :: s23 :: s24 :: s25 :: s26 :: s27 :: s28 :: s29 :: s30 :: s31 :: s32 :: s33 :: s34 :: s35 :: s36 :: (.pointer (some ⟨b, 2, none⟩) : Value) :: (.slice (some ⟨gb, off, none⟩) 2 c : Value) :: (.pointer (some ⟨gb, off, none⟩) : Value) :: (.agg #[.int .i64 xk0, .int .i64 xn0, .slice A0 m0 c0] : Value) :: (.slice Av nv cv : Value) :: (.int .i64 r0 : Value) :: (.pointer (some ⟨b, 2, none⟩) : Value) :: (.slice (some ⟨gb, off, none⟩) 2 c : Value) :: (.pointer (some ⟨gb, off + 3, none⟩) : Value) :: (.agg #[.int .i64 xk1, .int .i64 xn1, .slice A1 m1 c1] : Value) :: (.slice Av nv cv : Value) :: (.int .i64 r1 : Value) :: (.int .i64 (max r0 r1) : Value) :: ([] : List Value)).toArray, defers := [] } w') :
    (Code.region id vl10_ops.toArray true).wp Try.prog Q { tmps := (s0 :: (.slice Av nv cv : Value) :: (.pointer (some ⟨b, 0, none⟩) : Value) :: s3 :: s4 :: s5 :: s6 :: s7 :: s8 :: s9 :: s10 :: s11 :: s12 :: s13 :: s14 :: s15 :: s16 :: s17 :: s18 :: s19 :: s20 :: s21 :: s22 :: s23 :: s24 :: s25 :: s26 :: s27 :: s28 :: s29 :: s30 :: s31 :: s32 :: s33 :: s34 :: s35 :: s36 :: s37 :: s38 :: s39 :: s40 :: s41 :: s42 :: s43 :: s44 :: s45 :: s46 :: s47 :: s48 :: s49 :: ([] : List Value)).toArray, defers := [] } w0 := by
  refine wp_region_est (by kernel_rfl) (est2 0 0 (fun _ => False) (fun _ => False)) vl10_C (vl10_F w0 b k n gb off c Av nv cv xk0 xn0 A0 m0 c0 r0 xk1 xn1 A1 m1 c1 r1 ) (est2_dis (fun _ h _ => h)) (est2_range (fun _ h => h.elim) (fun _ h => h.elim)) (by rfl) (by kernel_rfl) (vl10_obs w0.drew b k n gb off c Av nv cv xk0 xn0 A0 m0 c0 r0 xk1 xn1 A1 m1 c1 r1  hx2 hgb hc0 hc1 hc2 hc3 hc4 hc5 hof0 hof1 _ _ rfl rfl) ?_
  intro a w' O hd hs hb hf hf2 ha hsame
  have x0 : a.tmps.getD 0 undef = s0 := hsame 0 (nwB.spec (by kernel_rfl))
  have x1 : a.tmps.getD 1 undef = .slice Av nv cv := hsame 1 (nwB.spec (by kernel_rfl))
  have x2 : a.tmps.getD 2 undef = .pointer (some ⟨b, 0, none⟩) := hsame 2 (nwB.spec (by kernel_rfl))
  have x3 : a.tmps.getD 3 undef = s3 := hsame 3 (nwB.spec (by kernel_rfl))
  have x4 : a.tmps.getD 4 undef = .int .i64 (max r0 r1) := (hf 13 _ 4 rfl rfl (by decide)).1
  have x5 : a.tmps.getD 5 undef = s5 := hsame 5 (nwB.spec (by kernel_rfl))
  have x6 : a.tmps.getD 6 undef = s6 := hsame 6 (nwB.spec (by kernel_rfl))
  have x7 : a.tmps.getD 7 undef = s7 := hsame 7 (nwB.spec (by kernel_rfl))
  have x8 : a.tmps.getD 8 undef = s8 := hsame 8 (nwB.spec (by kernel_rfl))
  have x9 : a.tmps.getD 9 undef = s9 := hsame 9 (nwB.spec (by kernel_rfl))
  have x10 : a.tmps.getD 10 undef = s10 := hsame 10 (nwB.spec (by kernel_rfl))
  have x11 : a.tmps.getD 11 undef = s11 := hsame 11 (nwB.spec (by kernel_rfl))
  have x12 : a.tmps.getD 12 undef = s12 := hsame 12 (nwB.spec (by kernel_rfl))
  have x13 : a.tmps.getD 13 undef = s13 := hsame 13 (nwB.spec (by kernel_rfl))
  have x14 : a.tmps.getD 14 undef = s14 := hsame 14 (nwB.spec (by kernel_rfl))
  have x15 : a.tmps.getD 15 undef = s15 := hsame 15 (nwB.spec (by kernel_rfl))
  have x16 : a.tmps.getD 16 undef = s16 := hsame 16 (nwB.spec (by kernel_rfl))
  have x17 : a.tmps.getD 17 undef = s17 := hsame 17 (nwB.spec (by kernel_rfl))
  have x18 : a.tmps.getD 18 undef = s18 := hsame 18 (nwB.spec (by kernel_rfl))
  have x19 : a.tmps.getD 19 undef = s19 := hsame 19 (nwB.spec (by kernel_rfl))
  have x20 : a.tmps.getD 20 undef = s20 := hsame 20 (nwB.spec (by kernel_rfl))
  have x21 : a.tmps.getD 21 undef = s21 := hsame 21 (nwB.spec (by kernel_rfl))
  have x22 : a.tmps.getD 22 undef = s22 := hsame 22 (nwB.spec (by kernel_rfl))
  have x23 : a.tmps.getD 23 undef = s23 := hsame 23 (nwB.spec (by kernel_rfl))
  have x24 : a.tmps.getD 24 undef = s24 := hsame 24 (nwB.spec (by kernel_rfl))
  have x25 : a.tmps.getD 25 undef = s25 := hsame 25 (nwB.spec (by kernel_rfl))
  have x26 : a.tmps.getD 26 undef = s26 := hsame 26 (nwB.spec (by kernel_rfl))
  have x27 : a.tmps.getD 27 undef = s27 := hsame 27 (nwB.spec (by kernel_rfl))
  have x28 : a.tmps.getD 28 undef = s28 := hsame 28 (nwB.spec (by kernel_rfl))
  have x29 : a.tmps.getD 29 undef = s29 := hsame 29 (nwB.spec (by kernel_rfl))
  have x30 : a.tmps.getD 30 undef = s30 := hsame 30 (nwB.spec (by kernel_rfl))
  have x31 : a.tmps.getD 31 undef = s31 := hsame 31 (nwB.spec (by kernel_rfl))
  have x32 : a.tmps.getD 32 undef = s32 := hsame 32 (nwB.spec (by kernel_rfl))
  have x33 : a.tmps.getD 33 undef = s33 := hsame 33 (nwB.spec (by kernel_rfl))
  have x34 : a.tmps.getD 34 undef = s34 := hsame 34 (nwB.spec (by kernel_rfl))
  have x35 : a.tmps.getD 35 undef = s35 := hsame 35 (nwB.spec (by kernel_rfl))
  have x36 : a.tmps.getD 36 undef = s36 := hsame 36 (nwB.spec (by kernel_rfl))
  have x37 : a.tmps.getD 37 undef = .pointer (some ⟨b, 2, none⟩) := (hf 0 _ 37 rfl rfl (by decide)).1
  have x38 : a.tmps.getD 38 undef = .slice (some ⟨gb, off, none⟩) 2 c := (hf 1 _ 38 rfl rfl (by decide)).1
  have x39 : a.tmps.getD 39 undef = .pointer (some ⟨gb, off, none⟩) := (hf 2 _ 39 rfl rfl (by decide)).1
  have x40 : a.tmps.getD 40 undef = .agg #[.int .i64 xk0, .int .i64 xn0, .slice A0 m0 c0] := (hf 3 _ 40 rfl rfl (by decide)).1
  have x41 : a.tmps.getD 41 undef = .slice Av nv cv := (hf 4 _ 41 rfl rfl (by decide)).1
  have x42 : a.tmps.getD 42 undef = .int .i64 r0 := (hf 5 _ 42 rfl rfl (by decide)).1
  have x43 : a.tmps.getD 43 undef = .pointer (some ⟨b, 2, none⟩) := (hf 6 _ 43 rfl rfl (by decide)).1
  have x44 : a.tmps.getD 44 undef = .slice (some ⟨gb, off, none⟩) 2 c := (hf 7 _ 44 rfl rfl (by decide)).1
  have x45 : a.tmps.getD 45 undef = .pointer (some ⟨gb, off + 3, none⟩) := (hf 8 _ 45 rfl rfl (by decide)).1
  have x46 : a.tmps.getD 46 undef = .agg #[.int .i64 xk1, .int .i64 xn1, .slice A1 m1 c1] := (hf 9 _ 46 rfl rfl (by decide)).1
  have x47 : a.tmps.getD 47 undef = .slice Av nv cv := (hf 10 _ 47 rfl rfl (by decide)).1
  have x48 : a.tmps.getD 48 undef = .int .i64 r1 := (hf 11 _ 48 rfl rfl (by decide)).1
  have x49 : a.tmps.getD 49 undef = .int .i64 (max r0 r1) := (hf 12 _ 49 rfl rfl (by decide)).1
  have hl : a.tmps = (s0 :: (.slice Av nv cv : Value) :: (.pointer (some ⟨b, 0, none⟩) : Value) :: s3 :: (.int .i64 (max r0 r1) : Value) :: s5 :: s6 :: s7 :: s8 :: s9 :: s10 :: s11 :: s12 :: s13 :: s14 :: s15 :: s16 :: s17 :: s18 :: s19 :: s20 :: s21 :: s22 :: s23 :: s24 :: s25 :: s26 :: s27 :: s28 :: s29 :: s30 :: s31 :: s32 :: s33 :: s34 :: s35 :: s36 :: (.pointer (some ⟨b, 2, none⟩) : Value) :: (.slice (some ⟨gb, off, none⟩) 2 c : Value) :: (.pointer (some ⟨gb, off, none⟩) : Value) :: (.agg #[.int .i64 xk0, .int .i64 xn0, .slice A0 m0 c0] : Value) :: (.slice Av nv cv : Value) :: (.int .i64 r0 : Value) :: (.pointer (some ⟨b, 2, none⟩) : Value) :: (.slice (some ⟨gb, off, none⟩) 2 c : Value) :: (.pointer (some ⟨gb, off + 3, none⟩) : Value) :: (.agg #[.int .i64 xk1, .int .i64 xn1, .slice A1 m1 c1] : Value) :: (.slice Av nv cv : Value) :: (.int .i64 r1 : Value) :: (.int .i64 (max r0 r1) : Value) :: ([] : List Value)).toArray := by
    have h := lit a.tmps 50 hs
    have e : ((List.range 50).map (fun i => a.tmps.getD i undef)).toArray = ((a.tmps.getD 0 undef : Value) :: (a.tmps.getD 1 undef : Value) :: (a.tmps.getD 2 undef : Value) :: (a.tmps.getD 3 undef : Value) :: (a.tmps.getD 4 undef : Value) :: (a.tmps.getD 5 undef : Value) :: (a.tmps.getD 6 undef : Value) :: (a.tmps.getD 7 undef : Value) :: (a.tmps.getD 8 undef : Value) :: (a.tmps.getD 9 undef : Value) :: (a.tmps.getD 10 undef : Value) :: (a.tmps.getD 11 undef : Value) :: (a.tmps.getD 12 undef : Value) :: (a.tmps.getD 13 undef : Value) :: (a.tmps.getD 14 undef : Value) :: (a.tmps.getD 15 undef : Value) :: (a.tmps.getD 16 undef : Value) :: (a.tmps.getD 17 undef : Value) :: (a.tmps.getD 18 undef : Value) :: (a.tmps.getD 19 undef : Value) :: (a.tmps.getD 20 undef : Value) :: (a.tmps.getD 21 undef : Value) :: (a.tmps.getD 22 undef : Value) :: (a.tmps.getD 23 undef : Value) :: (a.tmps.getD 24 undef : Value) :: (a.tmps.getD 25 undef : Value) :: (a.tmps.getD 26 undef : Value) :: (a.tmps.getD 27 undef : Value) :: (a.tmps.getD 28 undef : Value) :: (a.tmps.getD 29 undef : Value) :: (a.tmps.getD 30 undef : Value) :: (a.tmps.getD 31 undef : Value) :: (a.tmps.getD 32 undef : Value) :: (a.tmps.getD 33 undef : Value) :: (a.tmps.getD 34 undef : Value) :: (a.tmps.getD 35 undef : Value) :: (a.tmps.getD 36 undef : Value) :: (a.tmps.getD 37 undef : Value) :: (a.tmps.getD 38 undef : Value) :: (a.tmps.getD 39 undef : Value) :: (a.tmps.getD 40 undef : Value) :: (a.tmps.getD 41 undef : Value) :: (a.tmps.getD 42 undef : Value) :: (a.tmps.getD 43 undef : Value) :: (a.tmps.getD 44 undef : Value) :: (a.tmps.getD 45 undef : Value) :: (a.tmps.getD 46 undef : Value) :: (a.tmps.getD 47 undef : Value) :: (a.tmps.getD 48 undef : Value) :: (a.tmps.getD 49 undef : Value) :: ([] : List Value)).toArray := rfl
    rw [e, x0, x1, x2, x3, x4, x5, x6, x7, x8, x9, x10, x11, x12, x13, x14, x15, x16, x17, x18, x19, x20, x21, x22, x23, x24, x25, x26, x27, x28, x29, x30, x31, x32, x33, x34, x35, x36, x37, x38, x39, x40, x41, x42, x43, x44, x45, x46, x47, x48, x49] at h
    exact h
  obtain ⟨tmps, defers⟩ := a
  obtain rfl : defers = [] := hd
  have hl' : tmps = _ := hl
  rw [hl']
  have hb' := est2_chg hb
  exact hend w' ⟨hb'.os, hb'.tape, hb'.output, hb'.size, hb'.block⟩

end Go.Proofs.Ytjlhbaohippidaa

/-! ValR -/
namespace Go.Proofs.Ytjlhbaohippidaa
open Go.RowKit Go.IntWalk Go.Proofs.YtjlhbaohippidaaW.PrintWords Go.RegionInvYtjlhbaohippidaa Go.RegionEYtjlhbaohippidaa

theorem valR_in (vs : List Int) : ∀ {l : Lv}, Good l → 0 ≤ valR vs l ∧ valR vs l ≤ 1099511627776 := by
  intro l h
  induction h with
  | @mk k n ks h hk ih =>
    rcases good_cases (.mk h hk) with ⟨rfl, rfl, h0, h1⟩ | ⟨rfl, rfl, h0, h1⟩ | ⟨rfl, x, rfl, h0, h1, hx⟩ | ⟨rfl, x, y, rfl, -, -⟩
    · rw [valR_num]; omega
    · rw [valR_var]; exact vAt_in _ _
    · rw [valR_succ]; have := ih x (by simp); omega
    · rw [valR_max]; have := ih x (by simp); have := ih y (by simp); omega
theorem ReadsInt.still {w w' : World} {k : IntKind} {A : Option Addr} {n : Nat} {ks : List Int} (h : ReadsInt w k A n ks) (hs : ∀ b, b < w.heap.size → w'.heap[b]? = w.heap[b]?) : ReadsInt w' k A n ks := by
  refine ⟨h.1, h.2.1, fun hn => ?_⟩
  obtain ⟨ad, e, hc⟩ := h.2.2 hn
  refine ⟨ad, e, fun j hj => ?_⟩
  have hx := hc j hj
  exact (cell_same (w := w) (w' := w') (hs _ (World.block_lt_of_cell? w _ hx))).trans hx
abbrev vbW (w : World) (A : Option Addr) (m c : Nat) (k n : Int) : World := w.alloc (.cells #[.int .i64 k, .int .i64 n, .slice A m c] 24 (0, 0))
set_option maxHeartbeats 8000000 in
theorem ref_value (Av : Option Addr) (nv cv : Nat) (vs : List Int) (N : Nat) : ∀ (l : Lv), SizeOf.sizeOf l < N → Good l → ∀ (A : Option Addr) (c : Nat) (w : World), LvIn w w.heap.size A c l → ReadsInt w .i64 Av nv vs →
    Calls Try.prog 35 #[lvV A c l, .slice Av nv cv] w fun e w' => e = .returned (.int .i64 (valR vs l)) ∧ Below w.heap.size w w' := by
  induction N with
  | zero => intro l h; omega
  | succ N ih =>
    rintro ⟨lk, ln, ks⟩ hN hgood A c w hin hv
    have IH := Aside0.mk ih
    have HIN := Aside0.mk hin
    have HGOOD := Aside0.mk hgood
    have HV := Aside0.mk hv
    have HVL := Aside0.mk hv.1
    have hnv := hv.2.1
    clear ih hin hgood hv
    unfold lvV
    simp only [Lv.kind, Lv.num, Lv.kids]
    have HB1 := Aside0.mk (show Below w.heap.size w (vbW w A ks.length c lk ln) from below_alloc (Below.refl _ _) _)
    have HX2 := Aside0.mk (show (vbW w A ks.length c lk ln).heap[w.heap.size]? = some (.cells #[.int .i64 lk, .int .i64 ln, .slice A ks.length c] 24 (0, 0)) from blk_new w _)
    have HZ1 := Aside0.mk (show (vbW w A ks.length c lk ln).heap.size = w.heap.size + 1 by simp [vbW])
    rcases good_cases HGOOD.out with ⟨rfl, rfl, h0, h1⟩ | ⟨rfl, rfl, h0, h1⟩ | ⟨rfl, x, rfl, h0, h1, hx⟩ | ⟨rfl, x, y, rfl, hx, hy⟩
    · rw [valR_num]
      clear HGOOD
      go_enter Try.func35, Try.ntmps35
      go_wp2
      go_ret
      exact ⟨rfl, HB1.out⟩
    · rw [valR_var]
      obtain ⟨i, rfl⟩ := Int.eq_ofNat_of_zero_le h0
      rw [Int.toNat_natCast]
      clear HGOOD
      by_cases hi : i < nv
      · obtain ⟨ad, rfl, hc⟩ := (HV.out.below HB1.out).at_ i (by omega) (by omega)
        rw [Int.toNat_natCast] at hc
        have HE := Aside0.mk (vAt_lt (vs := vs) (i := i) (by rw [HVL.out]; exact hi))
        obtain ⟨z, hz⟩ : ∃ z, z = rd vs i := ⟨_, rfl⟩
        rw [← hz] at hc HE
        clear hz
        have hc' : (w.alloc (.cells #[.int .i64 2, .int .i64 i, .slice A 0 c] 24 (0, 0))).cell? (ad.add i) = some (.int .i64 z) := hc
        go_enter Try.func35, Try.ntmps35
        go_wp2
        all_goals go_ret
        all_goals exact ⟨congrArg (fun n => Ending.returned (.int .i64 n)) (by rw [HE.out]; omega), HB1.out⟩
      · have HE := Aside0.mk (vAt_ge (vs := vs) (i := i) (by rw [HVL.out]; exact hi))
        go_enter Try.func35, Try.ntmps35
        go_wp2
        go_ret
        exact ⟨by rw [HE.out]; rfl, HB1.out⟩
    · rw [valR_succ]
      obtain ⟨A', c', hcs, hxin⟩ := HIN.out.kid 0 x rfl
      obtain ⟨gb, off, rfl, hgb⟩ := kid_ptr hcs
      have HC := Aside0.mk (lit_kid (hcs.same (w' := vbW w (some ⟨gb, off, none⟩) [x].length c 3 ln) fun k hk _ => HB1.out.block k hk))
      have HRG := Aside0.mk (valR_in vs hx)
      have HXIN := Aside0.mk hxin
      have HX := Aside0.mk hx
      clear hcs hx hxin HGOOD
      go_enter Try.func35, Try.ntmps35
      go_upto_region 9 with (fail)
      refine vl9_region (vbW w (some ⟨gb, off, none⟩) [x].length c 3 ln) w.heap.size 3 ln gb off c Av nv cv x.kind x.num A' x.kids.length c' (valR vs x) HX2.out hgb HC.out.1 HC.out.2.1 HC.out.2.2 (fun w5 hw5 hz5 => ?_) (by have := HRG.out; rw [i64_left, wrap64_in _ (by omega)]) ?_
      · have hkid := kid_small (k := 3) (n := ln) (ks := [x]) (i := 0) (x := x) rfl
        exact IH.out x (by omega) HX.out A' c' w5 (LvS.all (HXIN.out.same fun k hk _ => (hw5 k hk).trans (HB1.out.block k hk))) (ReadsInt.still HV.out fun k hk => (hw5 k hk).trans (HB1.out.block k hk))
      · intro w9 hch
        have HBN := Aside0.mk (below_then HB1.out HB1.out.size (hch.below (fun _ h => h.elim False.elim False.elim) (Nat.le_refl _)))
        clear hch
        go_wp2
        all_goals go_ret
        all_goals exact ⟨congrArg (fun n => Ending.returned (.int .i64 n)) (by omega), HBN.out⟩
    · rw [valR_max]
      obtain ⟨A', c', hcs, hxin⟩ := HIN.out.kid 0 x rfl
      obtain ⟨A'', c'', hcs', hyin⟩ := HIN.out.kid 1 y rfl
      obtain ⟨gb, off, rfl, hgb⟩ := kid_ptr hcs
      have HC := Aside0.mk (lit_kid (hcs.same (w' := vbW w (some ⟨gb, off, none⟩) [x, y].length c 4 ln) fun k hk _ => HB1.out.block k hk))
      have HC' := Aside0.mk (lit_kid (hcs'.same (w' := vbW w (some ⟨gb, off, none⟩) [x, y].length c 4 ln) fun k hk _ => HB1.out.block k hk))
      have HXIN := Aside0.mk hxin
      have HYIN := Aside0.mk hyin
      have HX := Aside0.mk hx
      have HY := Aside0.mk hy
      clear hcs hx hxin hcs' hy hyin HGOOD
      go_enter Try.func35, Try.ntmps35
      go_upto_region 10 with (fail)
      refine vl10_region (vbW w (some ⟨gb, off, none⟩) [x, y].length c 4 ln) w.heap.size 4 ln gb off c Av nv cv x.kind x.num A' x.kids.length c' (valR vs x) y.kind y.num A'' y.kids.length c'' (valR vs y) HX2.out hgb HC.out.1 HC.out.2.1 HC.out.2.2 HC'.out.1 HC'.out.2.1 HC'.out.2.2 (fun w5 hw5 hz5 => ?_) (fun w5 hw5 hz5 => ?_) ?_
      · have hkid := kid_small (k := 4) (n := ln) (ks := [x, y]) (i := 0) (x := x) rfl
        exact IH.out x (by omega) HX.out A' c' w5 (LvS.all (HXIN.out.same fun k hk _ => (hw5 k hk).trans (HB1.out.block k hk))) (ReadsInt.still HV.out fun k hk => (hw5 k hk).trans (HB1.out.block k hk))
      · have hkid := kid_small (k := 4) (n := ln) (ks := [x, y]) (i := 1) (x := y) rfl
        exact IH.out y (by omega) HY.out A'' c'' w5 (LvS.all (HYIN.out.same fun k hk _ => (hw5 k hk).trans (HB1.out.block k hk))) (ReadsInt.still HV.out fun k hk => (hw5 k hk).trans (HB1.out.block k hk))
      · intro w9 hch
        have HBN := Aside0.mk (below_then HB1.out HB1.out.size (hch.below (fun _ h => h.elim False.elim False.elim) (Nat.le_refl _)))
        clear hch
        go_wp2
        go_ret
        exact ⟨rfl, HBN.out⟩
set_option maxHeartbeats 4000000 in
theorem refValue_calls (A Av : Option Addr) (c nv cv : Nat) (l : Lv) (vs : List Int) (w : World) (hin : LvIn w w.heap.size A c l) (hv : ReadsInt w .i64 Av nv vs) :
    Calls Try.prog 15 #[lvV A c l, .slice Av nv cv] w fun e w' => e = .returned (.int .i64 (valB vs l)) ∧ Below w.heap.size w w' := by
  have HIN := Aside0.mk hin
  have HV := Aside0.mk hv
  clear hin hv
  unfold lvV
  have HB0 := Aside0.mk (show Below w.heap.size w (w.alloc (.cells #[.int .i64 l.kind, .int .i64 l.num, .slice A l.kids.length c] 24 (0, 0))) from below_alloc (Below.refl _ _) _)
  have HX0 := Aside0.mk (blk_new w (.cells #[.int .i64 l.kind, .int .i64 l.num, .slice A l.kids.length c] 24 (0, 0)))
  go_enter Try.func15, Try.ntmps15
  cases hs : soundB l with
  | false =>
    have HE := Aside0.mk (valB_no (vs := vs) hs)
    have HS := Aside0.mk hs
    clear hs
    go_wp2_with (first
      | (go_at_call 16; go_must (refine (refSound_calls A c l _ (LvS.all (HIN.out.stay HB0.out))).mono ?_; rintro e w1 ⟨rfl, hb⟩; rw [HS.out]; have HB1 := Aside0.mk (below_then HB0.out HB0.out.size hb); clear hb)))
    go_ret
    exact ⟨by rw [HE.out]; rfl, HB1.out⟩
  | true =>
    have HE := Aside0.mk (show valR vs l = valB vs l by rw [valB_yes hs, ← valN_sum vs (good_of_sound hs)])
    have HG := Aside0.mk (good_of_sound hs)
    have HS := Aside0.mk hs
    clear hs
    go_wp2_with (first
      | (go_at_call 16; go_must (refine (refSound_calls A c l _ (LvS.all (HIN.out.stay HB0.out))).mono ?_; rintro e w1 ⟨rfl, hb⟩; rw [HS.out]; have HB1 := Aside0.mk (below_then HB0.out HB0.out.size hb); obtain ⟨p0, p1, p2, -, -, -⟩ := row3 (blk_below HX0.out hb); clear hb))
      | (go_at_call 35; go_must (refine (ref_value Av nv cv vs _ l (Nat.lt_succ_self _) HG.out A c _ (LvS.all (HIN.out.stay HB1.out)) (HV.out.below HB1.out)).mono ?_; rintro e w2 ⟨rfl, hb⟩; rw [HE.out]; have HB2 := Aside0.mk (below_then HB1.out HB1.out.size hb); clear hb)))
    go_ret
    exact ⟨rfl, HB2.out⟩
end Go.Proofs.Ytjlhbaohippidaa

/-! MeR1 -/
namespace Go.Proofs.Ytjlhbaohippidaa
open Go.RowKit Go.Proofs.YtjlhbaohippidaaW.PrintWords Go.RegionInvYtjlhbaohippidaa Go.RegionEYtjlhbaohippidaa
set_option linter.unusedVariables false

theorem run_cutI_to {A : Option Addr} {n c : Nat} (w : World) (k : Int) (h0 : 0 ≤ k) (h1 : k ≤ c) : (Instr.slice 29 (.slice A n c) none (some (.int .i64 k)) none).run Try.prog w = .ok (.slice A k.toNat c) w := by
  have hel : Try.prog.elem 29 = 3 := by kernel_rfl
  rw [run_slice_h w 29 A n c (by rw [hel]; exact Try.underlying29) .i64 k h0 h1, hel]
  obtain ⟨i, hi, hz⟩ := Option.map_eq_some_iff.1 infoI64
  have hs : i.size = 1 := by injection hz with _ hz; injection hz
  cases A <;> simp [sizeOf, typeInfo, hi, hs, sliced, Result.andThen, Addr.add]
theorem run_cutI_from {ad : Addr} {n c : Nat} (w : World) (k : Int) (h0 : 0 ≤ k) (h1 : k ≤ n) : (Instr.slice 29 (.slice (some ad) n c) (some (.int .i64 k)) none none).run Try.prog w = .ok (.slice (if c = k.toNat then some ad else some (ad.add k.toNat)) (n - k.toNat) (c - k.toNat)) w := by
  have hel : Try.prog.elem 29 = 3 := by kernel_rfl
  rw [run_slice_l w 29 (some ad) n c (by rw [hel]; exact Try.underlying29) .i64 k h0 h1, hel]
  obtain ⟨i, hi, hz⟩ := Option.map_eq_some_iff.1 infoI64
  have hs : i.size = 1 := by injection hz with _ hz; injection hz
  by_cases hc : c = k.toNat <;> simp [sizeOf, typeInfo, hi, hs, sliced, Result.andThen, hc]

def mc_ops : List Oper := [
  { dst := some 53, op := Go.Op.move (Go.Operand.tmp 2), type := 29, pos := "law.go:85", after := #[], guard := none },
  { dst := some 54, op := Go.Op.move (Go.Operand.tmp 7), type := 3, pos := "law.go:85", after := #[], guard := none },
  { dst := some 55, op := Go.Op.slice 29 (Go.Operand.tmp 53) none (some (Go.Operand.tmp 54)) none, type := 29, pos := "law.go:85", after := #[{ on := 0, ground := Go.Ground.data }, { on := 1, ground := Go.Ground.data }], guard := none },
  { dst := some 56, op := Go.Op.call { callee := Go.Callee.builtin Go.Builtin.append, args := #[Go.Operand.const (Go.Value.slice none 0 0), Go.Operand.tmp 55], argTypes := #[29, 29] }, type := 29, pos := "law.go:85", after := #[{ on := 2, ground := Go.Ground.data }], guard := none },
  { dst := some 57, op := Go.Op.buildSlice 29 1 #[(0, Go.Operand.const (Go.Value.int Go.IntKind.i64 0))], type := 29, pos := "law.go:85", after := #[], guard := none },
  { dst := some 58, op := Go.Op.call { callee := Go.Callee.builtin Go.Builtin.append, args := #[Go.Operand.tmp 56, Go.Operand.tmp 57], argTypes := #[29, 29] }, type := 29, pos := "law.go:85", after := #[{ on := 3, ground := Go.Ground.data }, { on := 4, ground := Go.Ground.data }, { on := 3, ground := Go.Ground.chain }], guard := none },
  { dst := some 59, op := Go.Op.move (Go.Operand.tmp 2), type := 29, pos := "law.go:85", after := #[], guard := none },
  { dst := some 60, op := Go.Op.move (Go.Operand.tmp 7), type := 3, pos := "law.go:85", after := #[], guard := none },
  { dst := some 61, op := Go.Op.binOp Go.BinOp.add 3 (Go.Operand.tmp 60) (Go.Operand.const (Go.Value.int Go.IntKind.i64 1)) 3, type := 3, pos := "law.go:85", after := #[{ on := 7, ground := Go.Ground.data }], guard := none },
  { dst := some 62, op := Go.Op.slice 29 (Go.Operand.tmp 59) (some (Go.Operand.tmp 61)) none none, type := 29, pos := "law.go:85", after := #[{ on := 6, ground := Go.Ground.data }, { on := 8, ground := Go.Ground.data }], guard := none },
  { dst := some 63, op := Go.Op.call { callee := Go.Callee.builtin Go.Builtin.append, args := #[Go.Operand.tmp 58, Go.Operand.tmp 62], argTypes := #[29, 29] }, type := 29, pos := "law.go:85", after := #[{ on := 5, ground := Go.Ground.data }, { on := 9, ground := Go.Ground.data }, { on := 5, ground := Go.Ground.chain }], guard := none },
  { dst := some 2, op := Go.Op.assign (Go.Operand.tmp 63), type := 29, pos := "law.go:85", after := #[{ on := 10, ground := Go.Ground.data }, { on := 10, ground := Go.Ground.chain }, { on := 0, ground := Go.Ground.phase }, { on := 1, ground := Go.Ground.phase }, { on := 2, ground := Go.Ground.phase }, { on := 3, ground := Go.Ground.phase }, { on := 4, ground := Go.Ground.phase }, { on := 5, ground := Go.Ground.phase }, { on := 6, ground := Go.Ground.phase }, { on := 7, ground := Go.Ground.phase }, { on := 8, ground := Go.Ground.phase }, { on := 9, ground := Go.Ground.phase }, { on := 10, ground := Go.Ground.phase }], guard := none }]
def mc_F (w0 : World) (ad : Addr) (i n cap : Nat) (vs : List Int) : Nat → (Nat → Value) → Value → World → (Nat → Prop) → Prop := fun rix => match rix with
  | 0 => fun _ v _ _ => v = .slice (some ad) n cap
  | 1 => fun _ v _ _ => v = .int .i64 i
  | 2 => fun _ v _ _ => v = .slice (some ad) i cap
  | 3 => fun τ v w O => OwnO w0.heap.size 3 1 (i) (nums .i64 (vs.take i)) v w O
  | 4 => fun τ v w O => ∃ p, v = .slice (some ⟨p, 0, none⟩) 1 1 ∧ w.heap[p]? = some (.cells #[.int .i64 0] 3 (0, 0)) ∧ O p
  | 5 => fun τ v w O => OwnO w0.heap.size 3 1 (i + 1) (nums .i64 (vs.take i ++ [0])) v w O
  | 6 => fun _ v _ _ => v = .slice (some ad) n cap
  | 7 => fun _ v _ _ => v = .int .i64 i
  | 8 => fun _ v _ _ => v = .int .i64 ((i + 1 : Nat) : Int)
  | 9 => fun _ v _ _ => v = .slice (if cap = i + 1 then some ad else some (ad.add (i + 1))) (n - (i + 1)) (cap - (i + 1))
  | 10 => fun τ v w O => OwnO w0.heap.size 3 1 (n) (nums .i64 (vs.take i ++ [0] ++ vs.drop (i + 1))) v w O
  | 11 => fun τ v w O => OwnO w0.heap.size 3 1 (n) (nums .i64 (vs.take i ++ [0] ++ vs.drop (i + 1))) v w O
  | _ => fun _ _ _ _ => True
def mc_C : Nat → List Nat := fun rix => match rix with
  | 5 => [3, 4]
  | 10 => [5]
  | 11 => [10]
  | _ => []
theorem mc_nw7 : nwB mc_ops.toArray 7 = true := by kernel_rfl
set_option maxRecDepth 100000 in
set_option maxHeartbeats 8000000 in
theorem mc_obs (w0 : World) (ad : Addr) (i n cap : Nat) (vs : List Int) (hv : ReadsInt w0 .i64 (some ad) n vs) (hcap : n ≤ cap) (hi : i < n) (hn : n ≤ 1100) (hwk : IntKind.i64.wrap ((i : Int) + 1) = ((i + 1 : Nat) : Int)) (Q : Exit → Act → World → Prop) (a0 : Act) (hi2 : a0.tmps.getD 2 undef = .slice (some ad) n cap) (hi7 : a0.tmps.getD 7 undef = .int .i64 i) :
    ObsE Try.prog mc_ops.toArray Q (est2 0 0 (fun _ => False) (fun _ => False)) mc_C (mc_F w0 ad i n cap vs) a0 w0 mc_ops.toArray.toList 0 := by
  have nw7 := mc_nw7
  refine ⟨?_, ?_, ?_, ?_, ?_, ?_, ?_, ?_, ?_, ?_, ?_, ?_, trivial⟩
  · refine ⟨⟨fun τ => stableE_det _, leans_not⟩, ?_⟩
    intro a w O hk
    have e2 : a.eval (.tmp 2) = .slice (some ad) n cap := (hk.init 2 rfl).trans hi2
    exact toE (ob_move rfl e2 (wanted_none rfl) rfl)
  · refine ⟨⟨fun τ => stableE_det _, leans_not⟩, ?_⟩
    intro a w O hk
    have e7 : a.eval (.tmp 7) = .int .i64 i := (hk.init 7 (initialB_of_nw nw7)).trans hi7
    exact toE (ob_move rfl e7 (wanted_none rfl) rfl)
  · refine ⟨⟨fun τ => stableE_det _, leans_not⟩, ?_⟩
    intro a w O hk
    have e53 : a.eval (.tmp 53) = .slice (some ad) n cap := hk.fact 0 _ 53 rfl rfl rfl rfl
    have e54 : a.eval (.tmp 54) = .int .i64 i := hk.fact 1 _ 54 rfl rfl rfl rfl
    exact toE (ob_sliceTo (by kernel_rfl) rfl e53 e54 (by have h := run_cutI_to (A := some ad) (n := n) (c := cap) w (i : Int) (by omega) (by omega); rwa [Int.toNat_natCast] at h) (wanted_none rfl) rfl)
  · refine ⟨⟨fun τ => stableE_own _ _ _ _ _, leans_not⟩, ?_⟩
    intro a w O hk
    have e55 : a.eval (.tmp 55) = .slice (some ad) i cap := hk.fact 2 _ 55 rfl rfl rfl rfl
    have hz := hk.world.size
    have hread : ReadsInt w .i64 (some ad) i (vs.take i) := (ReadsInt.still hv fun k hk' => hk.fix k (est2_fix hk' (fun h => h) (fun h => h))).take_ i (by omega)
    refine obE_listGrew (.slice none 0 0) (wanted_none rfl) (fun k hk => by cases hk) (fun Q' hQ => ?_)
    refine print_append_row (w0 := w) w0.heap.size rfl (.const (.slice none 0 0)) (.tmp 55) 29 3 .i64 8 rfl Try.underlying29 infoI64 (by decide) (.slice none 0 0) [] (vs.take i) (some ad) i cap rfl e55 (own_nil _ _ _ _) hread (Below.refl _ _) hz (by simp only [List.length_nil]; omega) ?_
    intro v1 w1 ho _ hg hat
    refine hQ v1 w1 ?_ hg hat
    have hl := hread.1
    simp only [List.nil_append] at ho
    rw [hl] at ho
    exact ho
  · refine ⟨⟨fun τ => stableE_ex fun p => stableE_and stableE_pure (stableE_block _ _), leans_not⟩, ?_⟩
    intro a w O hk
    exact obE_lit (cs := #[.int .i64 0]) (e := 3) (wanted_none rfl) (by unfold execOp; simp only [List.map_toArray, List.map_cons, List.map_nil]; go_simp) (fun w' h _ => ⟨_, rfl, h, rfl⟩)
  · refine ⟨⟨fun τ => stableE_own _ _ _ _ _, leans_not⟩, ?_⟩
    intro a w O hk
    have f56 := hk.fact 3 _ 56 rfl rfl rfl rfl
    have g56 := hk.owns 3 rfl rfl
    have f57 := hk.fact 4 _ 57 rfl rfl rfl rfl
    have g57 := hk.owns 4 rfl rfl
    have hz := hk.world.size
    obtain ⟨hrow1, hO1⟩ := f56
    obtain ⟨p, e57, hp, -⟩ := f57
    have hread := reads_lit hp
    have hl : (vs.take i).length = i := by rw [List.length_take, hv.1]; omega
    refine obE_listGrew (a.eval (.tmp 56)) (wanted_none rfl) (fun k hk => .inl ⟨3, by simp [mc_C], hO1 k hk⟩) (fun Q' hQ => ?_)
    refine print_append_row (w0 := w) w0.heap.size rfl (.tmp 56) (.tmp 57) 29 3 .i64 8 rfl Try.underlying29 infoI64 (by decide) (a.eval (.tmp 56)) (vs.take i) [0] (some ⟨p, 0, none⟩) 1 1 rfl e57 (by rw [hl]; exact hrow1) hread (Below.refl _ _) hz (by omega) ?_
    intro v1 w1 ho _ hg hat
    refine hQ v1 w1 ?_ hg hat
    rw [List.length_append, hl] at ho
    exact ho
  · refine ⟨⟨fun τ => stableE_det _, leans_not⟩, ?_⟩
    intro a w O hk
    have e2 : a.eval (.tmp 2) = .slice (some ad) n cap := (hk.init 2 rfl).trans hi2
    exact toE (ob_move rfl e2 (wanted_none rfl) rfl)
  · refine ⟨⟨fun τ => stableE_det _, leans_not⟩, ?_⟩
    intro a w O hk
    have e7 : a.eval (.tmp 7) = .int .i64 i := (hk.init 7 (initialB_of_nw nw7)).trans hi7
    exact toE (ob_move rfl e7 (wanted_none rfl) rfl)
  · refine ⟨⟨fun τ => stableE_det _, leans_not⟩, ?_⟩
    intro a w O hk
    have e60 : a.eval (.tmp 60) = .int .i64 i := hk.fact 7 _ 60 rfl rfl rfl rfl
    exact obE_run (wanted_none rfl) (by unfold execOp; simp only []; rw [e60]; go_simp) rfl
  · refine ⟨⟨fun τ => stableE_det _, leans_not⟩, ?_⟩
    intro a w O hk
    have e59 : a.eval (.tmp 59) = .slice (some ad) n cap := hk.fact 6 _ 59 rfl rfl rfl rfl
    have e61 : a.eval (.tmp 61) = .int .i64 ((i + 1 : Nat) : Int) := hk.fact 8 _ 61 rfl rfl rfl rfl
    exact toE (ob_sliceFrom (by kernel_rfl) rfl e59 e61 (by have h := run_cutI_from (ad := ad) (n := n) (c := cap) w ((i + 1 : Nat) : Int) (by omega) (by omega); rwa [Int.toNat_natCast] at h) (wanted_none rfl) rfl)
  · refine ⟨⟨fun τ => stableE_own _ _ _ _ _, leans_not⟩, ?_⟩
    intro a w O hk
    have f58 := hk.fact 5 _ 58 rfl rfl rfl rfl
    have g58 := hk.owns 5 rfl rfl
    have e62 : a.eval (.tmp 62) = .slice (if cap = i + 1 then some ad else some (ad.add (i + 1))) (n - (i + 1)) (cap - (i + 1)) := hk.fact 9 _ 62 rfl rfl rfl rfl
    have hz := hk.world.size
    obtain ⟨hrow1, hO1⟩ := f58
    have hread : ReadsInt w .i64 (if cap = i + 1 then some ad else some (ad.add (i + 1))) (n - (i + 1)) (vs.drop (i + 1)) := (ReadsInt.still hv fun k hk' => hk.fix k (est2_fix hk' (fun h => h) (fun h => h))).drop_ (i + 1) (by omega) hcap
    have hl : (vs.take i ++ [0]).length = i + 1 := by rw [List.length_append, List.length_take, hv.1, List.length_singleton]; omega
    refine obE_listGrew (a.eval (.tmp 58)) (wanted_none rfl) (fun k hk => .inl ⟨5, by simp [mc_C], hO1 k hk⟩) (fun Q' hQ => ?_)
    refine print_append_row (w0 := w) w0.heap.size rfl (.tmp 58) (.tmp 62) 29 3 .i64 8 rfl Try.underlying29 infoI64 (by decide) (a.eval (.tmp 58)) (vs.take i ++ [0]) (vs.drop (i + 1)) (if cap = i + 1 then some ad else some (ad.add (i + 1))) (n - (i + 1)) (cap - (i + 1)) rfl e62 (by rw [hl]; exact hrow1) hread (Below.refl _ _) hz (by omega) ?_
    intro v1 w1 ho _ hg hat
    refine hQ v1 w1 ?_ hg hat
    rw [List.length_append, hl, hread.1, show i + 1 + (n - (i + 1)) = n by omega] at ho
    exact ho
  · refine ⟨⟨fun τ => stableE_own _ _ _ _ _, leans_not⟩, ?_⟩
    intro a w O hk
    have f63 := hk.fact 10 _ 63 rfl rfl rfl rfl
    have g63 := hk.owns 10 rfl rfl
    exact toE (ob_assignO (O 10) rfl rfl (wanted_none rfl) f63 (fun k h => ⟨10, by simp [mc_C], h⟩))
set_option maxRecDepth 100000 in
set_option maxHeartbeats 8000000 in
theorem mc_region {Q : Exit → Act → World → Prop} {id : Nat} (w0 : World) (ad : Addr) (i n cap : Nat) (vs : List Int) {s0 s1 s3 s4 s5 s6 s8 s9 s10 s11 s12 s13 s14 s15 s16 s17 s18 s19 s20 s21 s22 s23 s24 s25 s26 s27 s28 s29 s30 s31 s32 s33 s34 s35 s36 s37 s38 s39 s40 s41 s42 s43 s44 s45 s46 s47 s48 s49 s50 s51 s52 s53 s54 s55 s56 s57 s58 s59 s60 s61 s62 s63 s64 s65 s66 s67 s68 s69 s70 s71 s72 s73 s74 s75 s76 s77 s78 s79 s80 s81 s82 s83 s84 s85 s86 s87 s88 s89 s90 s91 s92 s93 s94 s95 s96 s97 s98 s99 s100 s101 s102 s103 s104 s105 s106 s107 s108 s109 s110 s111 s112 s113 s114 s115 s116 s117 s118 s119 s120 s121 s122 s123 s124 s125 s126 s127 s128 s129 s130 s131 s132 : Value} (hv : ReadsInt w0 .i64 (some ad) n vs) (hcap : n ≤ cap) (hi : i < n) (hn : n ≤ 1100) (hwk : IntKind.i64.wrap ((i : Int) + 1) = ((i + 1 : Nat) : Int))
    (hend : ∀ (w' : World) (u2 : Value) (u56 : Value) (u57 : Value) (u58 : Value) (u63 : Value) (O11 : Nat → Prop), Chg (fun k => False ∨ False) w0 w' → (OwnO w0.heap.size 3 1 (n) (nums .i64 (vs.take i ++ [0] ++ vs.drop (i + 1))) u2 w' O11) → (∀ k, O11 k → k < w'.heap.size ∧ ¬ Fix w0 (est2 0 0 (fun _ => False) (fun _ => False)) k) → Q .normal { tmps := (s0 :: s1 :: u2 :: s3 :: s4 :: s5 :: s6 :: (.int .i64 i : Value) :: s8 :: s9 :: s10 :: s11 :: s12 :: s13 :: s14 :: s15 :: s16 :: s17 :: s18 :: s19 :: s20 :: s21 :: s22 :: s23 :: s24 :: s25 :: s26 :: s27 :: s28 :: s29 :: s30 :: s31 :: s32 :: s33 :: s34 :: s35 :: s36 :: s37 :: s38 :: s39 :: s40 :: s41 :: s42 :: s43 :: s44 :: s45 :: s46 :: s47 :: s48 :: s49 :: s50 :: s51 :: s52 :: (.slice (some ad) n cap : Value) :: (.int .i64 i : Value) :: (.slice (some ad) i cap : Value) :: u56 :: u57 :: u58 :: (.slice (some ad) n cap : Value) :: (.int .i64 i : Value) :: (.int .i64 ((i + 1 : Nat) : Int) : Value) :: (.slice (if cap = i + 1 then some ad else some (ad.add (i + 1))) (n - (i + 1)) (cap - (i + 1)) : Value) :: u63 :: s64 :: s65 :: s66 :: s67 :: s68 :: s69 :: s70 :: s71 :: s72 :: s73 :: s74 :: s75 :: s76 :: s77 :: s78 :: s79 :: s80 :: s81 :: s82 :: s83 :: s84 :: s85 :: s86 :: s87 :: s88 :: s89 :: s90 :: s91 :: s92 :: s93 :: s94 :: s95 :: s96 :: s97 :: s98 :: s99 :: s100 :: s101 :: s102 :: s103 :: s104 :: s105 :: s106 :: s107 :: s108 :: s109 :: s110 :: s111 :: s112 :: s113 :: s114 :: s115 :: s116 :: s117 :: s118 :: s119 :: s120 :: s121 :: s122 :: s123 :: s124 :: s125 :: s126 :: s127 :: s128 :: s129 :: s130 :: s131 :: s132 :: ([] : List Value)).toArray, defers := [] } w') :
    (Code.region id mc_ops.toArray true).wp Try.prog Q { tmps := (s0 :: s1 :: (.slice (some ad) n cap : Value) :: s3 :: s4 :: s5 :: s6 :: (.int .i64 i : Value) :: s8 :: s9 :: s10 :: s11 :: s12 :: s13 :: s14 :: s15 :: s16 :: s17 :: s18 :: s19 :: s20 :: s21 :: s22 :: s23 :: s24 :: s25 :: s26 :: s27 :: s28 :: s29 :: s30 :: s31 :: s32 :: s33 :: s34 :: s35 :: s36 :: s37 :: s38 :: s39 :: s40 :: s41 :: s42 :: s43 :: s44 :: s45 :: s46 :: s47 :: s48 :: s49 :: s50 :: s51 :: s52 :: s53 :: s54 :: s55 :: s56 :: s57 :: s58 :: s59 :: s60 :: s61 :: s62 :: s63 :: s64 :: s65 :: s66 :: s67 :: s68 :: s69 :: s70 :: s71 :: s72 :: s73 :: s74 :: s75 :: s76 :: s77 :: s78 :: s79 :: s80 :: s81 :: s82 :: s83 :: s84 :: s85 :: s86 :: s87 :: s88 :: s89 :: s90 :: s91 :: s92 :: s93 :: s94 :: s95 :: s96 :: s97 :: s98 :: s99 :: s100 :: s101 :: s102 :: s103 :: s104 :: s105 :: s106 :: s107 :: s108 :: s109 :: s110 :: s111 :: s112 :: s113 :: s114 :: s115 :: s116 :: s117 :: s118 :: s119 :: s120 :: s121 :: s122 :: s123 :: s124 :: s125 :: s126 :: s127 :: s128 :: s129 :: s130 :: s131 :: s132 :: ([] : List Value)).toArray, defers := [] } w0 := by
  refine wp_region_est (by kernel_rfl) (est2 0 0 (fun _ => False) (fun _ => False)) mc_C (mc_F w0 ad i n cap vs) (est2_dis (fun _ h _ => h)) (est2_range (fun _ h => h.elim) (fun _ h => h.elim)) (by rfl) (by kernel_rfl) (mc_obs w0.drew ad i n cap vs (hv.below (below_drew (Below.refl _ _))) hcap hi hn hwk _ _ rfl rfl) ?_
  intro a w' O hd hs hb hf hf2 ha hsame
  have hx : ∀ (qi : Nat) (qv : Value), nwB mc_ops.toArray qi = true → (s0 :: s1 :: (.slice (some ad) n cap : Value) :: s3 :: s4 :: s5 :: s6 :: (.int .i64 i : Value) :: s8 :: s9 :: s10 :: s11 :: s12 :: s13 :: s14 :: s15 :: s16 :: s17 :: s18 :: s19 :: s20 :: s21 :: s22 :: s23 :: s24 :: s25 :: s26 :: s27 :: s28 :: s29 :: s30 :: s31 :: s32 :: s33 :: s34 :: s35 :: s36 :: s37 :: s38 :: s39 :: s40 :: s41 :: s42 :: s43 :: s44 :: s45 :: s46 :: s47 :: s48 :: s49 :: s50 :: s51 :: s52 :: s53 :: s54 :: s55 :: s56 :: s57 :: s58 :: s59 :: s60 :: s61 :: s62 :: s63 :: s64 :: s65 :: s66 :: s67 :: s68 :: s69 :: s70 :: s71 :: s72 :: s73 :: s74 :: s75 :: s76 :: s77 :: s78 :: s79 :: s80 :: s81 :: s82 :: s83 :: s84 :: s85 :: s86 :: s87 :: s88 :: s89 :: s90 :: s91 :: s92 :: s93 :: s94 :: s95 :: s96 :: s97 :: s98 :: s99 :: s100 :: s101 :: s102 :: s103 :: s104 :: s105 :: s106 :: s107 :: s108 :: s109 :: s110 :: s111 :: s112 :: s113 :: s114 :: s115 :: s116 :: s117 :: s118 :: s119 :: s120 :: s121 :: s122 :: s123 :: s124 :: s125 :: s126 :: s127 :: s128 :: s129 :: s130 :: s131 :: s132 :: ([] : List Value)).toArray.getD qi undef = qv → a.tmps.getD qi undef = qv := fun qi qv h e => (hsame qi (nwB.spec h)).trans e
  have x0 := hx 0 s0 (by kernel_rfl) rfl
  have x1 := hx 1 s1 (by kernel_rfl) rfl
  have x3 := hx 3 s3 (by kernel_rfl) rfl
  have x4 := hx 4 s4 (by kernel_rfl) rfl
  have x5 := hx 5 s5 (by kernel_rfl) rfl
  have x6 := hx 6 s6 (by kernel_rfl) rfl
  have x7 := hx 7 (.int .i64 i) (by kernel_rfl) rfl
  have x8 := hx 8 s8 (by kernel_rfl) rfl
  have x9 := hx 9 s9 (by kernel_rfl) rfl
  have x10 := hx 10 s10 (by kernel_rfl) rfl
  have x11 := hx 11 s11 (by kernel_rfl) rfl
  have x12 := hx 12 s12 (by kernel_rfl) rfl
  have x13 := hx 13 s13 (by kernel_rfl) rfl
  have x14 := hx 14 s14 (by kernel_rfl) rfl
  have x15 := hx 15 s15 (by kernel_rfl) rfl
  have x16 := hx 16 s16 (by kernel_rfl) rfl
  have x17 := hx 17 s17 (by kernel_rfl) rfl
  have x18 := hx 18 s18 (by kernel_rfl) rfl
  have x19 := hx 19 s19 (by kernel_rfl) rfl
  have x20 := hx 20 s20 (by kernel_rfl) rfl
  have x21 := hx 21 s21 (by kernel_rfl) rfl
  have x22 := hx 22 s22 (by kernel_rfl) rfl
  have x23 := hx 23 s23 (by kernel_rfl) rfl
  have x24 := hx 24 s24 (by kernel_rfl) rfl
  have x25 := hx 25 s25 (by kernel_rfl) rfl
  have x26 := hx 26 s26 (by kernel_rfl) rfl
  have x27 := hx 27 s27 (by kernel_rfl) rfl
  have x28 := hx 28 s28 (by kernel_rfl) rfl
  have x29 := hx 29 s29 (by kernel_rfl) rfl
  have x30 := hx 30 s30 (by kernel_rfl) rfl
  have x31 := hx 31 s31 (by kernel_rfl) rfl
  have x32 := hx 32 s32 (by kernel_rfl) rfl
  have x33 := hx 33 s33 (by kernel_rfl) rfl
  have x34 := hx 34 s34 (by kernel_rfl) rfl
  have x35 := hx 35 s35 (by kernel_rfl) rfl
  have x36 := hx 36 s36 (by kernel_rfl) rfl
  have x37 := hx 37 s37 (by kernel_rfl) rfl
  have x38 := hx 38 s38 (by kernel_rfl) rfl
  have x39 := hx 39 s39 (by kernel_rfl) rfl
  have x40 := hx 40 s40 (by kernel_rfl) rfl
  have x41 := hx 41 s41 (by kernel_rfl) rfl
  have x42 := hx 42 s42 (by kernel_rfl) rfl
  have x43 := hx 43 s43 (by kernel_rfl) rfl
  have x44 := hx 44 s44 (by kernel_rfl) rfl
  have x45 := hx 45 s45 (by kernel_rfl) rfl
  have x46 := hx 46 s46 (by kernel_rfl) rfl
  have x47 := hx 47 s47 (by kernel_rfl) rfl
  have x48 := hx 48 s48 (by kernel_rfl) rfl
  have x49 := hx 49 s49 (by kernel_rfl) rfl
  have x50 := hx 50 s50 (by kernel_rfl) rfl
  have x51 := hx 51 s51 (by kernel_rfl) rfl
  have x52 := hx 52 s52 (by kernel_rfl) rfl
  have x53 : a.tmps.getD 53 undef = .slice (some ad) n cap := (hf 0 _ 53 rfl rfl (by decide)).1
  have x54 : a.tmps.getD 54 undef = .int .i64 i := (hf 1 _ 54 rfl rfl (by decide)).1
  have x55 : a.tmps.getD 55 undef = .slice (some ad) i cap := (hf 2 _ 55 rfl rfl (by decide)).1
  have x59 : a.tmps.getD 59 undef = .slice (some ad) n cap := (hf 6 _ 59 rfl rfl (by decide)).1
  have x60 : a.tmps.getD 60 undef = .int .i64 i := (hf 7 _ 60 rfl rfl (by decide)).1
  have x61 : a.tmps.getD 61 undef = .int .i64 ((i + 1 : Nat) : Int) := (hf 8 _ 61 rfl rfl (by decide)).1
  have x62 : a.tmps.getD 62 undef = .slice (if cap = i + 1 then some ad else some (ad.add (i + 1))) (n - (i + 1)) (cap - (i + 1)) := (hf 9 _ 62 rfl rfl (by decide)).1
  have x64 := hx 64 s64 (by kernel_rfl) rfl
  have x65 := hx 65 s65 (by kernel_rfl) rfl
  have x66 := hx 66 s66 (by kernel_rfl) rfl
  have x67 := hx 67 s67 (by kernel_rfl) rfl
  have x68 := hx 68 s68 (by kernel_rfl) rfl
  have x69 := hx 69 s69 (by kernel_rfl) rfl
  have x70 := hx 70 s70 (by kernel_rfl) rfl
  have x71 := hx 71 s71 (by kernel_rfl) rfl
  have x72 := hx 72 s72 (by kernel_rfl) rfl
  have x73 := hx 73 s73 (by kernel_rfl) rfl
  have x74 := hx 74 s74 (by kernel_rfl) rfl
  have x75 := hx 75 s75 (by kernel_rfl) rfl
  have x76 := hx 76 s76 (by kernel_rfl) rfl
  have x77 := hx 77 s77 (by kernel_rfl) rfl
  have x78 := hx 78 s78 (by kernel_rfl) rfl
  have x79 := hx 79 s79 (by kernel_rfl) rfl
  have x80 := hx 80 s80 (by kernel_rfl) rfl
  have x81 := hx 81 s81 (by kernel_rfl) rfl
  have x82 := hx 82 s82 (by kernel_rfl) rfl
  have x83 := hx 83 s83 (by kernel_rfl) rfl
  have x84 := hx 84 s84 (by kernel_rfl) rfl
  have x85 := hx 85 s85 (by kernel_rfl) rfl
  have x86 := hx 86 s86 (by kernel_rfl) rfl
  have x87 := hx 87 s87 (by kernel_rfl) rfl
  have x88 := hx 88 s88 (by kernel_rfl) rfl
  have x89 := hx 89 s89 (by kernel_rfl) rfl
  have x90 := hx 90 s90 (by kernel_rfl) rfl
  have x91 := hx 91 s91 (by kernel_rfl) rfl
  have x92 := hx 92 s92 (by kernel_rfl) rfl
  have x93 := hx 93 s93 (by kernel_rfl) rfl
  have x94 := hx 94 s94 (by kernel_rfl) rfl
  have x95 := hx 95 s95 (by kernel_rfl) rfl
  have x96 := hx 96 s96 (by kernel_rfl) rfl
  have x97 := hx 97 s97 (by kernel_rfl) rfl
  have x98 := hx 98 s98 (by kernel_rfl) rfl
  have x99 := hx 99 s99 (by kernel_rfl) rfl
  have x100 := hx 100 s100 (by kernel_rfl) rfl
  have x101 := hx 101 s101 (by kernel_rfl) rfl
  have x102 := hx 102 s102 (by kernel_rfl) rfl
  have x103 := hx 103 s103 (by kernel_rfl) rfl
  have x104 := hx 104 s104 (by kernel_rfl) rfl
  have x105 := hx 105 s105 (by kernel_rfl) rfl
  have x106 := hx 106 s106 (by kernel_rfl) rfl
  have x107 := hx 107 s107 (by kernel_rfl) rfl
  have x108 := hx 108 s108 (by kernel_rfl) rfl
  have x109 := hx 109 s109 (by kernel_rfl) rfl
  have x110 := hx 110 s110 (by kernel_rfl) rfl
  have x111 := hx 111 s111 (by kernel_rfl) rfl
  have x112 := hx 112 s112 (by kernel_rfl) rfl
  have x113 := hx 113 s113 (by kernel_rfl) rfl
  have x114 := hx 114 s114 (by kernel_rfl) rfl
  have x115 := hx 115 s115 (by kernel_rfl) rfl
  have x116 := hx 116 s116 (by kernel_rfl) rfl
  have x117 := hx 117 s117 (by kernel_rfl) rfl
  have x118 := hx 118 s118 (by kernel_rfl) rfl
  have x119 := hx 119 s119 (by kernel_rfl) rfl
  have x120 := hx 120 s120 (by kernel_rfl) rfl
  have x121 := hx 121 s121 (by kernel_rfl) rfl
  have x122 := hx 122 s122 (by kernel_rfl) rfl
  have x123 := hx 123 s123 (by kernel_rfl) rfl
  have x124 := hx 124 s124 (by kernel_rfl) rfl
  have x125 := hx 125 s125 (by kernel_rfl) rfl
  have x126 := hx 126 s126 (by kernel_rfl) rfl
  have x127 := hx 127 s127 (by kernel_rfl) rfl
  have x128 := hx 128 s128 (by kernel_rfl) rfl
  have x129 := hx 129 s129 (by kernel_rfl) rfl
  have x130 := hx 130 s130 (by kernel_rfl) rfl
  have x131 := hx 131 s131 (by kernel_rfl) rfl
  have x132 := hx 132 s132 (by kernel_rfl) rfl
  have hl : a.tmps = (s0 :: s1 :: (a.tmps.getD 2 undef : Value) :: s3 :: s4 :: s5 :: s6 :: (.int .i64 i : Value) :: s8 :: s9 :: s10 :: s11 :: s12 :: s13 :: s14 :: s15 :: s16 :: s17 :: s18 :: s19 :: s20 :: s21 :: s22 :: s23 :: s24 :: s25 :: s26 :: s27 :: s28 :: s29 :: s30 :: s31 :: s32 :: s33 :: s34 :: s35 :: s36 :: s37 :: s38 :: s39 :: s40 :: s41 :: s42 :: s43 :: s44 :: s45 :: s46 :: s47 :: s48 :: s49 :: s50 :: s51 :: s52 :: (.slice (some ad) n cap : Value) :: (.int .i64 i : Value) :: (.slice (some ad) i cap : Value) :: (a.tmps.getD 56 undef : Value) :: (a.tmps.getD 57 undef : Value) :: (a.tmps.getD 58 undef : Value) :: (.slice (some ad) n cap : Value) :: (.int .i64 i : Value) :: (.int .i64 ((i + 1 : Nat) : Int) : Value) :: (.slice (if cap = i + 1 then some ad else some (ad.add (i + 1))) (n - (i + 1)) (cap - (i + 1)) : Value) :: (a.tmps.getD 63 undef : Value) :: s64 :: s65 :: s66 :: s67 :: s68 :: s69 :: s70 :: s71 :: s72 :: s73 :: s74 :: s75 :: s76 :: s77 :: s78 :: s79 :: s80 :: s81 :: s82 :: s83 :: s84 :: s85 :: s86 :: s87 :: s88 :: s89 :: s90 :: s91 :: s92 :: s93 :: s94 :: s95 :: s96 :: s97 :: s98 :: s99 :: s100 :: s101 :: s102 :: s103 :: s104 :: s105 :: s106 :: s107 :: s108 :: s109 :: s110 :: s111 :: s112 :: s113 :: s114 :: s115 :: s116 :: s117 :: s118 :: s119 :: s120 :: s121 :: s122 :: s123 :: s124 :: s125 :: s126 :: s127 :: s128 :: s129 :: s130 :: s131 :: s132 :: ([] : List Value)).toArray := by
    have h := lit a.tmps 133 hs
    have e : ((List.range 133).map (fun i => a.tmps.getD i undef)).toArray = ((a.tmps.getD 0 undef : Value) :: (a.tmps.getD 1 undef : Value) :: (a.tmps.getD 2 undef : Value) :: (a.tmps.getD 3 undef : Value) :: (a.tmps.getD 4 undef : Value) :: (a.tmps.getD 5 undef : Value) :: (a.tmps.getD 6 undef : Value) :: (a.tmps.getD 7 undef : Value) :: (a.tmps.getD 8 undef : Value) :: (a.tmps.getD 9 undef : Value) :: (a.tmps.getD 10 undef : Value) :: (a.tmps.getD 11 undef : Value) :: (a.tmps.getD 12 undef : Value) :: (a.tmps.getD 13 undef : Value) :: (a.tmps.getD 14 undef : Value) :: (a.tmps.getD 15 undef : Value) :: (a.tmps.getD 16 undef : Value) :: (a.tmps.getD 17 undef : Value) :: (a.tmps.getD 18 undef : Value) :: (a.tmps.getD 19 undef : Value) :: (a.tmps.getD 20 undef : Value) :: (a.tmps.getD 21 undef : Value) :: (a.tmps.getD 22 undef : Value) :: (a.tmps.getD 23 undef : Value) :: (a.tmps.getD 24 undef : Value) :: (a.tmps.getD 25 undef : Value) :: (a.tmps.getD 26 undef : Value) :: (a.tmps.getD 27 undef : Value) :: (a.tmps.getD 28 undef : Value) :: (a.tmps.getD 29 undef : Value) :: (a.tmps.getD 30 undef : Value) :: (a.tmps.getD 31 undef : Value) :: (a.tmps.getD 32 undef : Value) :: (a.tmps.getD 33 undef : Value) :: (a.tmps.getD 34 undef : Value) :: (a.tmps.getD 35 undef : Value) :: (a.tmps.getD 36 undef : Value) :: (a.tmps.getD 37 undef : Value) :: (a.tmps.getD 38 undef : Value) :: (a.tmps.getD 39 undef : Value) :: (a.tmps.getD 40 undef : Value) :: (a.tmps.getD 41 undef : Value) :: (a.tmps.getD 42 undef : Value) :: (a.tmps.getD 43 undef : Value) :: (a.tmps.getD 44 undef : Value) :: (a.tmps.getD 45 undef : Value) :: (a.tmps.getD 46 undef : Value) :: (a.tmps.getD 47 undef : Value) :: (a.tmps.getD 48 undef : Value) :: (a.tmps.getD 49 undef : Value) :: (a.tmps.getD 50 undef : Value) :: (a.tmps.getD 51 undef : Value) :: (a.tmps.getD 52 undef : Value) :: (a.tmps.getD 53 undef : Value) :: (a.tmps.getD 54 undef : Value) :: (a.tmps.getD 55 undef : Value) :: (a.tmps.getD 56 undef : Value) :: (a.tmps.getD 57 undef : Value) :: (a.tmps.getD 58 undef : Value) :: (a.tmps.getD 59 undef : Value) :: (a.tmps.getD 60 undef : Value) :: (a.tmps.getD 61 undef : Value) :: (a.tmps.getD 62 undef : Value) :: (a.tmps.getD 63 undef : Value) :: (a.tmps.getD 64 undef : Value) :: (a.tmps.getD 65 undef : Value) :: (a.tmps.getD 66 undef : Value) :: (a.tmps.getD 67 undef : Value) :: (a.tmps.getD 68 undef : Value) :: (a.tmps.getD 69 undef : Value) :: (a.tmps.getD 70 undef : Value) :: (a.tmps.getD 71 undef : Value) :: (a.tmps.getD 72 undef : Value) :: (a.tmps.getD 73 undef : Value) :: (a.tmps.getD 74 undef : Value) :: (a.tmps.getD 75 undef : Value) :: (a.tmps.getD 76 undef : Value) :: (a.tmps.getD 77 undef : Value) :: (a.tmps.getD 78 undef : Value) :: (a.tmps.getD 79 undef : Value) :: (a.tmps.getD 80 undef : Value) :: (a.tmps.getD 81 undef : Value) :: (a.tmps.getD 82 undef : Value) :: (a.tmps.getD 83 undef : Value) :: (a.tmps.getD 84 undef : Value) :: (a.tmps.getD 85 undef : Value) :: (a.tmps.getD 86 undef : Value) :: (a.tmps.getD 87 undef : Value) :: (a.tmps.getD 88 undef : Value) :: (a.tmps.getD 89 undef : Value) :: (a.tmps.getD 90 undef : Value) :: (a.tmps.getD 91 undef : Value) :: (a.tmps.getD 92 undef : Value) :: (a.tmps.getD 93 undef : Value) :: (a.tmps.getD 94 undef : Value) :: (a.tmps.getD 95 undef : Value) :: (a.tmps.getD 96 undef : Value) :: (a.tmps.getD 97 undef : Value) :: (a.tmps.getD 98 undef : Value) :: (a.tmps.getD 99 undef : Value) :: (a.tmps.getD 100 undef : Value) :: (a.tmps.getD 101 undef : Value) :: (a.tmps.getD 102 undef : Value) :: (a.tmps.getD 103 undef : Value) :: (a.tmps.getD 104 undef : Value) :: (a.tmps.getD 105 undef : Value) :: (a.tmps.getD 106 undef : Value) :: (a.tmps.getD 107 undef : Value) :: (a.tmps.getD 108 undef : Value) :: (a.tmps.getD 109 undef : Value) :: (a.tmps.getD 110 undef : Value) :: (a.tmps.getD 111 undef : Value) :: (a.tmps.getD 112 undef : Value) :: (a.tmps.getD 113 undef : Value) :: (a.tmps.getD 114 undef : Value) :: (a.tmps.getD 115 undef : Value) :: (a.tmps.getD 116 undef : Value) :: (a.tmps.getD 117 undef : Value) :: (a.tmps.getD 118 undef : Value) :: (a.tmps.getD 119 undef : Value) :: (a.tmps.getD 120 undef : Value) :: (a.tmps.getD 121 undef : Value) :: (a.tmps.getD 122 undef : Value) :: (a.tmps.getD 123 undef : Value) :: (a.tmps.getD 124 undef : Value) :: (a.tmps.getD 125 undef : Value) :: (a.tmps.getD 126 undef : Value) :: (a.tmps.getD 127 undef : Value) :: (a.tmps.getD 128 undef : Value) :: (a.tmps.getD 129 undef : Value) :: (a.tmps.getD 130 undef : Value) :: (a.tmps.getD 131 undef : Value) :: (a.tmps.getD 132 undef : Value) :: ([] : List Value)).toArray := rfl
    rw [e, x0, x1, x3, x4, x5, x6, x7, x8, x9, x10, x11, x12, x13, x14, x15, x16, x17, x18, x19, x20, x21, x22, x23, x24, x25, x26, x27, x28, x29, x30, x31, x32, x33, x34, x35, x36, x37, x38, x39, x40, x41, x42, x43, x44, x45, x46, x47, x48, x49, x50, x51, x52, x53, x54, x55, x59, x60, x61, x62, x64, x65, x66, x67, x68, x69, x70, x71, x72, x73, x74, x75, x76, x77, x78, x79, x80, x81, x82, x83, x84, x85, x86, x87, x88, x89, x90, x91, x92, x93, x94, x95, x96, x97, x98, x99, x100, x101, x102, x103, x104, x105, x106, x107, x108, x109, x110, x111, x112, x113, x114, x115, x116, x117, x118, x119, x120, x121, x122, x123, x124, x125, x126, x127, x128, x129, x130, x131, x132] at h
    exact h
  obtain ⟨tmps, defers⟩ := a
  obtain rfl : defers = [] := hd
  have hl' : tmps = _ := hl
  rw [hl']
  have hb' := est2_chg hb
  exact hend w' _ _ _ _ _ (O 11) ⟨hb'.os, hb'.tape, hb'.output, hb'.size, hb'.block⟩ (hf 11 _ 2 rfl rfl (by decide)).1 (hf 11 _ 2 rfl rfl (by decide)).2

def mv_ops : List Oper := [
  { dst := some 65, op := Go.Op.load 24 (Go.Operand.tmp 3), type := 24, pos := "law.go:88", after := #[], guard := none },
  { dst := some 66, op := Go.Op.move (Go.Operand.tmp 2), type := 29, pos := "law.go:88", after := #[], guard := none },
  { dst := some 67, op := Go.Op.call { callee := Go.Callee.value (Go.Operand.func 14), args := #[Go.Operand.tmp 65, Go.Operand.tmp 66], argTypes := #[24, 29] }, type := 3, pos := "law.go:88", after := #[{ on := 0, ground := Go.Ground.data }, { on := 1, ground := Go.Ground.data }], guard := none },
  { dst := some 68, op := Go.Op.load 24 (Go.Operand.tmp 4), type := 24, pos := "law.go:88", after := #[], guard := none },
  { dst := some 69, op := Go.Op.move (Go.Operand.tmp 2), type := 29, pos := "law.go:88", after := #[], guard := none },
  { dst := some 70, op := Go.Op.call { callee := Go.Callee.value (Go.Operand.func 14), args := #[Go.Operand.tmp 68, Go.Operand.tmp 69], argTypes := #[24, 29] }, type := 3, pos := "law.go:88", after := #[{ on := 3, ground := Go.Ground.data }, { on := 4, ground := Go.Ground.data }, { on := 2, ground := Go.Ground.chain }], guard := none },
  { dst := some 9, op := Go.Op.assign (Go.Operand.tmp 67), type := 3, pos := "law.go:88", after := #[{ on := 2, ground := Go.Ground.data }, { on := 5, ground := Go.Ground.chain }, { on := 0, ground := Go.Ground.phase }, { on := 1, ground := Go.Ground.phase }, { on := 2, ground := Go.Ground.phase }, { on := 3, ground := Go.Ground.textOnly Go.Departure.lateStores }, { on := 4, ground := Go.Ground.textOnly Go.Departure.lateStores }, { on := 5, ground := Go.Ground.textOnly Go.Departure.lateStoresUnsure }], guard := none },
  { dst := some 10, op := Go.Op.assign (Go.Operand.tmp 70), type := 3, pos := "law.go:88", after := #[{ on := 5, ground := Go.Ground.data }, { on := 6, ground := Go.Ground.chain }, { on := 0, ground := Go.Ground.phase }, { on := 1, ground := Go.Ground.phase }, { on := 2, ground := Go.Ground.phase }, { on := 3, ground := Go.Ground.phase }, { on := 4, ground := Go.Ground.phase }, { on := 5, ground := Go.Ground.phase }, { on := 6, ground := Go.Ground.phase }], guard := none }]
def mv_F (w0 : World) (b : Nat) (Aa Ab Av : Option Addr) (ca cb nv cv : Nat) (la lb : Lv) (vs : List Int) : Nat → (Nat → Value) → Value → World → (Nat → Prop) → Prop := fun rix => match rix with
  | 0 => fun _ v _ _ => v = lvV Aa ca la
  | 1 => fun _ v _ _ => v = .slice Av nv cv
  | 2 => fun _ v _ _ => v = .int .i64 (valB vs la)
  | 3 => fun _ v _ _ => v = lvV Ab cb lb
  | 4 => fun _ v _ _ => v = .slice Av nv cv
  | 5 => fun _ v _ _ => v = .int .i64 (valB vs lb)
  | 6 => fun _ v _ _ => v = .int .i64 (valB vs la)
  | 7 => fun _ v _ _ => v = .int .i64 (valB vs lb)
  | _ => fun _ _ _ _ => True
def mv_C : Nat → List Nat := fun rix => match rix with
  | _ => []
theorem mv_nw2 : nwB mv_ops.toArray 2 = true := by kernel_rfl
theorem mv_nw3 : nwB mv_ops.toArray 3 = true := by kernel_rfl
theorem mv_nw4 : nwB mv_ops.toArray 4 = true := by kernel_rfl
set_option maxRecDepth 100000 in
set_option maxHeartbeats 8000000 in
theorem mv_obs (w0 : World) (b : Nat) (Aa Ab Av : Option Addr) (ca cb nv cv : Nat) (la lb : Lv) (vs : List Int) (hxa : w0.heap[b]? = some (.cells #[.int .i64 la.kind, .int .i64 la.num, .slice Aa la.kids.length ca] 24 (0, 0))) (hina : LvS w0 (fun k => k < w0.heap.size) Aa ca la) (hxb : w0.heap[b + 1]? = some (.cells #[.int .i64 lb.kind, .int .i64 lb.num, .slice Ab lb.kids.length cb] 24 (0, 0))) (hinb : LvS w0 (fun k => k < w0.heap.size) Ab cb lb) (hv : ReadsInt w0 .i64 Av nv vs) (Q : Exit → Act → World → Prop) (a0 : Act) (hi2 : a0.tmps.getD 2 undef = .slice Av nv cv) (hi3 : a0.tmps.getD 3 undef = .pointer (some ⟨b, 0, none⟩)) (hi4 : a0.tmps.getD 4 undef = .pointer (some ⟨b + 1, 0, none⟩)) :
    ObsE Try.prog mv_ops.toArray Q (est2 0 0 (fun _ => False) (fun _ => False)) mv_C (mv_F w0 b Aa Ab Av ca cb nv cv la lb vs) a0 w0 mv_ops.toArray.toList 0 := by
  have nw2 := mv_nw2
  have nw3 := mv_nw3
  have nw4 := mv_nw4
  refine ⟨?_, ?_, ?_, ?_, ?_, ?_, ?_, ?_, trivial⟩
  · refine ⟨⟨fun τ => stableE_det _, leans_not⟩, ?_⟩
    intro a w O hk
    have e3 : a.eval (.tmp 3) = .pointer (some ⟨b, 0, none⟩) := (hk.init 3 (initialB_of_nw nw3)).trans hi3
    have x3 := hk.world.still hxa (fun ⟨_, h⟩ => h.elim And.right And.right)
    exact obE_loadRow rfl e3 x3 Try.underlying24 rfl (by kernel_rfl) (wanted_none rfl) rfl
  · refine ⟨⟨fun τ => stableE_det _, leans_not⟩, ?_⟩
    intro a w O hk
    have e2 : a.eval (.tmp 2) = .slice Av nv cv := (hk.init 2 (initialB_of_nw nw2)).trans hi2
    exact toE (ob_move rfl e2 (wanted_none rfl) rfl)
  · refine ⟨⟨fun τ => stableE_det _, leans_not⟩, ?_⟩
    intro a w O hk
    have e65 : a.eval (.tmp 65) = lvV Aa ca la := hk.fact 0 _ 65 rfl rfl rfl rfl
    have e66 : a.eval (.tmp 66) = .slice Av nv cv := hk.fact 1 _ 66 rfl rfl rfl rfl
    exact obE_callV #[lvV Aa ca la, .slice Av nv cv] rfl rfl rfl rfl (by simp only [List.map_cons, List.map_nil]; rw [e65, e66]) (wanted_none rfl) (value_calls Aa Av ca nv cv la vs w (LvS.all (LvS.same hina (fun k hk' _ => hk.fix k ((fun k hk' => est2_fix hk' (fun h => h) (fun h => h)) k hk')))) (ReadsInt.still hv fun k hk' => hk.fix k (est2_fix hk' (fun h => h) (fun h => h))))
  · refine ⟨⟨fun τ => stableE_det _, leans_not⟩, ?_⟩
    intro a w O hk
    have e4 : a.eval (.tmp 4) = .pointer (some ⟨b + 1, 0, none⟩) := (hk.init 4 (initialB_of_nw nw4)).trans hi4
    have x4 := hk.world.still hxb (fun ⟨_, h⟩ => h.elim And.right And.right)
    exact obE_loadRow rfl e4 x4 Try.underlying24 rfl (by kernel_rfl) (wanted_none rfl) rfl
  · refine ⟨⟨fun τ => stableE_det _, leans_not⟩, ?_⟩
    intro a w O hk
    have e2 : a.eval (.tmp 2) = .slice Av nv cv := (hk.init 2 (initialB_of_nw nw2)).trans hi2
    exact toE (ob_move rfl e2 (wanted_none rfl) rfl)
  · refine ⟨⟨fun τ => stableE_det _, leans_not⟩, ?_⟩
    intro a w O hk
    have e68 : a.eval (.tmp 68) = lvV Ab cb lb := hk.fact 3 _ 68 rfl rfl rfl rfl
    have e69 : a.eval (.tmp 69) = .slice Av nv cv := hk.fact 4 _ 69 rfl rfl rfl rfl
    exact obE_callV #[lvV Ab cb lb, .slice Av nv cv] rfl rfl rfl rfl (by simp only [List.map_cons, List.map_nil]; rw [e68, e69]) (wanted_none rfl) (value_calls Ab Av cb nv cv lb vs w (LvS.all (LvS.same hinb (fun k hk' _ => hk.fix k ((fun k hk' => est2_fix hk' (fun h => h) (fun h => h)) k hk')))) (ReadsInt.still hv fun k hk' => hk.fix k (est2_fix hk' (fun h => h) (fun h => h))))
  · refine ⟨⟨fun τ => stableE_det _, leans_not⟩, ?_⟩
    intro a w O hk
    have e67 : a.eval (.tmp 67) = .int .i64 (valB vs la) := hk.fact 2 _ 67 rfl rfl rfl rfl
    exact toE (ob_assign rfl e67 (wanted_none rfl) rfl)
  · refine ⟨⟨fun τ => stableE_det _, leans_not⟩, ?_⟩
    intro a w O hk
    have e70 : a.eval (.tmp 70) = .int .i64 (valB vs lb) := hk.fact 5 _ 70 rfl rfl rfl rfl
    exact toE (ob_assign rfl e70 (wanted_none rfl) rfl)
set_option maxRecDepth 100000 in
set_option maxHeartbeats 8000000 in
theorem mv_region {Q : Exit → Act → World → Prop} {id : Nat} (w0 : World) (b : Nat) (Aa Ab Av : Option Addr) (ca cb nv cv : Nat) (la lb : Lv) (vs : List Int) {s0 s1 s5 s6 s7 s8 s9 s10 s11 s12 s13 s14 s15 s16 s17 s18 s19 s20 s21 s22 s23 s24 s25 s26 s27 s28 s29 s30 s31 s32 s33 s34 s35 s36 s37 s38 s39 s40 s41 s42 s43 s44 s45 s46 s47 s48 s49 s50 s51 s52 s53 s54 s55 s56 s57 s58 s59 s60 s61 s62 s63 s64 s65 s66 s67 s68 s69 s70 s71 s72 s73 s74 s75 s76 s77 s78 s79 s80 s81 s82 s83 s84 s85 s86 s87 s88 s89 s90 s91 s92 s93 s94 s95 s96 s97 s98 s99 s100 s101 s102 s103 s104 s105 s106 s107 s108 s109 s110 s111 s112 s113 s114 s115 s116 s117 s118 s119 s120 s121 s122 s123 s124 s125 s126 s127 s128 s129 s130 s131 s132 : Value} (hxa : w0.heap[b]? = some (.cells #[.int .i64 la.kind, .int .i64 la.num, .slice Aa la.kids.length ca] 24 (0, 0))) (hina : LvS w0 (fun k => k < w0.heap.size) Aa ca la) (hxb : w0.heap[b + 1]? = some (.cells #[.int .i64 lb.kind, .int .i64 lb.num, .slice Ab lb.kids.length cb] 24 (0, 0))) (hinb : LvS w0 (fun k => k < w0.heap.size) Ab cb lb) (hv : ReadsInt w0 .i64 Av nv vs)
    (hend : ∀ (w' : World), Chg (fun k => False ∨ False) w0 w' → Q .normal { tmps := (s0 :: s1 :: (.slice Av nv cv : Value) :: (.pointer (some ⟨b, 0, none⟩) : Value) :: (.pointer (some ⟨b + 1, 0, none⟩) : Value) :: s5 :: s6 :: s7 :: s8 :: (.int .i64 (valB vs la) : Value) :: (.int .i64 (valB vs lb) : Value) :: s11 :: s12 :: s13 :: s14 :: s15 :: s16 :: s17 :: s18 :: s19 :: s20 :: s21 :: s22 :: s23 :: s24 :: s25 :: s26 :: s27 :: s28 :: s29 :: s30 :: s31 :: s32 :: s33 :: s34 :: s35 :: s36 :: s37 :: s38 :: s39 :: s40 :: s41 :: s42 :: s43 :: s44 :: s45 :: s46 :: s47 :: s48 :: s49 :: s50 :: s51 :: s52 :: s53 :: s54 :: s55 :: s56 :: s57 :: s58 :: s59 :: s60 :: s61 :: s62 :: s63 :: s64 :: (lvV Aa ca la : Value) :: (.slice Av nv cv : Value) :: (.int .i64 (valB vs la) : Value) :: (lvV Ab cb lb : Value) :: (.slice Av nv cv : Value) :: (.int .i64 (valB vs lb) : Value) :: s71 :: s72 :: s73 :: s74 :: s75 :: s76 :: s77 :: s78 :: s79 :: s80 :: s81 :: s82 :: s83 :: s84 :: s85 :: s86 :: s87 :: s88 :: s89 :: s90 :: s91 :: s92 :: s93 :: s94 :: s95 :: s96 :: s97 :: s98 :: s99 :: s100 :: s101 :: s102 :: s103 :: s104 :: s105 :: s106 :: s107 :: s108 :: s109 :: s110 :: s111 :: s112 :: s113 :: s114 :: s115 :: s116 :: s117 :: s118 :: s119 :: s120 :: s121 :: s122 :: s123 :: s124 :: s125 :: s126 :: s127 :: s128 :: s129 :: s130 :: s131 :: s132 :: ([] : List Value)).toArray, defers := [] } w') :
    (Code.region id mv_ops.toArray true).wp Try.prog Q { tmps := (s0 :: s1 :: (.slice Av nv cv : Value) :: (.pointer (some ⟨b, 0, none⟩) : Value) :: (.pointer (some ⟨b + 1, 0, none⟩) : Value) :: s5 :: s6 :: s7 :: s8 :: s9 :: s10 :: s11 :: s12 :: s13 :: s14 :: s15 :: s16 :: s17 :: s18 :: s19 :: s20 :: s21 :: s22 :: s23 :: s24 :: s25 :: s26 :: s27 :: s28 :: s29 :: s30 :: s31 :: s32 :: s33 :: s34 :: s35 :: s36 :: s37 :: s38 :: s39 :: s40 :: s41 :: s42 :: s43 :: s44 :: s45 :: s46 :: s47 :: s48 :: s49 :: s50 :: s51 :: s52 :: s53 :: s54 :: s55 :: s56 :: s57 :: s58 :: s59 :: s60 :: s61 :: s62 :: s63 :: s64 :: s65 :: s66 :: s67 :: s68 :: s69 :: s70 :: s71 :: s72 :: s73 :: s74 :: s75 :: s76 :: s77 :: s78 :: s79 :: s80 :: s81 :: s82 :: s83 :: s84 :: s85 :: s86 :: s87 :: s88 :: s89 :: s90 :: s91 :: s92 :: s93 :: s94 :: s95 :: s96 :: s97 :: s98 :: s99 :: s100 :: s101 :: s102 :: s103 :: s104 :: s105 :: s106 :: s107 :: s108 :: s109 :: s110 :: s111 :: s112 :: s113 :: s114 :: s115 :: s116 :: s117 :: s118 :: s119 :: s120 :: s121 :: s122 :: s123 :: s124 :: s125 :: s126 :: s127 :: s128 :: s129 :: s130 :: s131 :: s132 :: ([] : List Value)).toArray, defers := [] } w0 := by
  refine wp_region_est (by kernel_rfl) (est2 0 0 (fun _ => False) (fun _ => False)) mv_C (mv_F w0 b Aa Ab Av ca cb nv cv la lb vs) (est2_dis (fun _ h _ => h)) (est2_range (fun _ h => h.elim) (fun _ h => h.elim)) (by rfl) (by kernel_rfl) (mv_obs w0.drew b Aa Ab Av ca cb nv cv la lb vs hxa (LvS.later hina (below_drew (Below.refl _ _))) hxb (LvS.later hinb (below_drew (Below.refl _ _))) (hv.below (below_drew (Below.refl _ _))) _ _ rfl rfl rfl) ?_
  intro a w' O hd hs hb hf hf2 ha hsame
  have hx : ∀ (qi : Nat) (qv : Value), nwB mv_ops.toArray qi = true → (s0 :: s1 :: (.slice Av nv cv : Value) :: (.pointer (some ⟨b, 0, none⟩) : Value) :: (.pointer (some ⟨b + 1, 0, none⟩) : Value) :: s5 :: s6 :: s7 :: s8 :: s9 :: s10 :: s11 :: s12 :: s13 :: s14 :: s15 :: s16 :: s17 :: s18 :: s19 :: s20 :: s21 :: s22 :: s23 :: s24 :: s25 :: s26 :: s27 :: s28 :: s29 :: s30 :: s31 :: s32 :: s33 :: s34 :: s35 :: s36 :: s37 :: s38 :: s39 :: s40 :: s41 :: s42 :: s43 :: s44 :: s45 :: s46 :: s47 :: s48 :: s49 :: s50 :: s51 :: s52 :: s53 :: s54 :: s55 :: s56 :: s57 :: s58 :: s59 :: s60 :: s61 :: s62 :: s63 :: s64 :: s65 :: s66 :: s67 :: s68 :: s69 :: s70 :: s71 :: s72 :: s73 :: s74 :: s75 :: s76 :: s77 :: s78 :: s79 :: s80 :: s81 :: s82 :: s83 :: s84 :: s85 :: s86 :: s87 :: s88 :: s89 :: s90 :: s91 :: s92 :: s93 :: s94 :: s95 :: s96 :: s97 :: s98 :: s99 :: s100 :: s101 :: s102 :: s103 :: s104 :: s105 :: s106 :: s107 :: s108 :: s109 :: s110 :: s111 :: s112 :: s113 :: s114 :: s115 :: s116 :: s117 :: s118 :: s119 :: s120 :: s121 :: s122 :: s123 :: s124 :: s125 :: s126 :: s127 :: s128 :: s129 :: s130 :: s131 :: s132 :: ([] : List Value)).toArray.getD qi undef = qv → a.tmps.getD qi undef = qv := fun qi qv h e => (hsame qi (nwB.spec h)).trans e
  have x0 := hx 0 s0 (by kernel_rfl) rfl
  have x1 := hx 1 s1 (by kernel_rfl) rfl
  have x2 := hx 2 (.slice Av nv cv) (by kernel_rfl) rfl
  have x3 := hx 3 (.pointer (some ⟨b, 0, none⟩)) (by kernel_rfl) rfl
  have x4 := hx 4 (.pointer (some ⟨b + 1, 0, none⟩)) (by kernel_rfl) rfl
  have x5 := hx 5 s5 (by kernel_rfl) rfl
  have x6 := hx 6 s6 (by kernel_rfl) rfl
  have x7 := hx 7 s7 (by kernel_rfl) rfl
  have x8 := hx 8 s8 (by kernel_rfl) rfl
  have x9 : a.tmps.getD 9 undef = .int .i64 (valB vs la) := (hf 6 _ 9 rfl rfl (by decide)).1
  have x10 : a.tmps.getD 10 undef = .int .i64 (valB vs lb) := (hf 7 _ 10 rfl rfl (by decide)).1
  have x11 := hx 11 s11 (by kernel_rfl) rfl
  have x12 := hx 12 s12 (by kernel_rfl) rfl
  have x13 := hx 13 s13 (by kernel_rfl) rfl
  have x14 := hx 14 s14 (by kernel_rfl) rfl
  have x15 := hx 15 s15 (by kernel_rfl) rfl
  have x16 := hx 16 s16 (by kernel_rfl) rfl
  have x17 := hx 17 s17 (by kernel_rfl) rfl
  have x18 := hx 18 s18 (by kernel_rfl) rfl
  have x19 := hx 19 s19 (by kernel_rfl) rfl
  have x20 := hx 20 s20 (by kernel_rfl) rfl
  have x21 := hx 21 s21 (by kernel_rfl) rfl
  have x22 := hx 22 s22 (by kernel_rfl) rfl
  have x23 := hx 23 s23 (by kernel_rfl) rfl
  have x24 := hx 24 s24 (by kernel_rfl) rfl
  have x25 := hx 25 s25 (by kernel_rfl) rfl
  have x26 := hx 26 s26 (by kernel_rfl) rfl
  have x27 := hx 27 s27 (by kernel_rfl) rfl
  have x28 := hx 28 s28 (by kernel_rfl) rfl
  have x29 := hx 29 s29 (by kernel_rfl) rfl
  have x30 := hx 30 s30 (by kernel_rfl) rfl
  have x31 := hx 31 s31 (by kernel_rfl) rfl
  have x32 := hx 32 s32 (by kernel_rfl) rfl
  have x33 := hx 33 s33 (by kernel_rfl) rfl
  have x34 := hx 34 s34 (by kernel_rfl) rfl
  have x35 := hx 35 s35 (by kernel_rfl) rfl
  have x36 := hx 36 s36 (by kernel_rfl) rfl
  have x37 := hx 37 s37 (by kernel_rfl) rfl
  have x38 := hx 38 s38 (by kernel_rfl) rfl
  have x39 := hx 39 s39 (by kernel_rfl) rfl
  have x40 := hx 40 s40 (by kernel_rfl) rfl
  have x41 := hx 41 s41 (by kernel_rfl) rfl
  have x42 := hx 42 s42 (by kernel_rfl) rfl
  have x43 := hx 43 s43 (by kernel_rfl) rfl
  have x44 := hx 44 s44 (by kernel_rfl) rfl
  have x45 := hx 45 s45 (by kernel_rfl) rfl
  have x46 := hx 46 s46 (by kernel_rfl) rfl
  have x47 := hx 47 s47 (by kernel_rfl) rfl
  have x48 := hx 48 s48 (by kernel_rfl) rfl
  have x49 := hx 49 s49 (by kernel_rfl) rfl
  have x50 := hx 50 s50 (by kernel_rfl) rfl
  have x51 := hx 51 s51 (by kernel_rfl) rfl
  have x52 := hx 52 s52 (by kernel_rfl) rfl
  have x53 := hx 53 s53 (by kernel_rfl) rfl
  have x54 := hx 54 s54 (by kernel_rfl) rfl
  have x55 := hx 55 s55 (by kernel_rfl) rfl
  have x56 := hx 56 s56 (by kernel_rfl) rfl
  have x57 := hx 57 s57 (by kernel_rfl) rfl
  have x58 := hx 58 s58 (by kernel_rfl) rfl
  have x59 := hx 59 s59 (by kernel_rfl) rfl
  have x60 := hx 60 s60 (by kernel_rfl) rfl
  have x61 := hx 61 s61 (by kernel_rfl) rfl
  have x62 := hx 62 s62 (by kernel_rfl) rfl
  have x63 := hx 63 s63 (by kernel_rfl) rfl
  have x64 := hx 64 s64 (by kernel_rfl) rfl
  have x65 : a.tmps.getD 65 undef = lvV Aa ca la := (hf 0 _ 65 rfl rfl (by decide)).1
  have x66 : a.tmps.getD 66 undef = .slice Av nv cv := (hf 1 _ 66 rfl rfl (by decide)).1
  have x67 : a.tmps.getD 67 undef = .int .i64 (valB vs la) := (hf 2 _ 67 rfl rfl (by decide)).1
  have x68 : a.tmps.getD 68 undef = lvV Ab cb lb := (hf 3 _ 68 rfl rfl (by decide)).1
  have x69 : a.tmps.getD 69 undef = .slice Av nv cv := (hf 4 _ 69 rfl rfl (by decide)).1
  have x70 : a.tmps.getD 70 undef = .int .i64 (valB vs lb) := (hf 5 _ 70 rfl rfl (by decide)).1
  have x71 := hx 71 s71 (by kernel_rfl) rfl
  have x72 := hx 72 s72 (by kernel_rfl) rfl
  have x73 := hx 73 s73 (by kernel_rfl) rfl
  have x74 := hx 74 s74 (by kernel_rfl) rfl
  have x75 := hx 75 s75 (by kernel_rfl) rfl
  have x76 := hx 76 s76 (by kernel_rfl) rfl
  have x77 := hx 77 s77 (by kernel_rfl) rfl
  have x78 := hx 78 s78 (by kernel_rfl) rfl
  have x79 := hx 79 s79 (by kernel_rfl) rfl
  have x80 := hx 80 s80 (by kernel_rfl) rfl
  have x81 := hx 81 s81 (by kernel_rfl) rfl
  have x82 := hx 82 s82 (by kernel_rfl) rfl
  have x83 := hx 83 s83 (by kernel_rfl) rfl
  have x84 := hx 84 s84 (by kernel_rfl) rfl
  have x85 := hx 85 s85 (by kernel_rfl) rfl
  have x86 := hx 86 s86 (by kernel_rfl) rfl
  have x87 := hx 87 s87 (by kernel_rfl) rfl
  have x88 := hx 88 s88 (by kernel_rfl) rfl
  have x89 := hx 89 s89 (by kernel_rfl) rfl
  have x90 := hx 90 s90 (by kernel_rfl) rfl
  have x91 := hx 91 s91 (by kernel_rfl) rfl
  have x92 := hx 92 s92 (by kernel_rfl) rfl
  have x93 := hx 93 s93 (by kernel_rfl) rfl
  have x94 := hx 94 s94 (by kernel_rfl) rfl
  have x95 := hx 95 s95 (by kernel_rfl) rfl
  have x96 := hx 96 s96 (by kernel_rfl) rfl
  have x97 := hx 97 s97 (by kernel_rfl) rfl
  have x98 := hx 98 s98 (by kernel_rfl) rfl
  have x99 := hx 99 s99 (by kernel_rfl) rfl
  have x100 := hx 100 s100 (by kernel_rfl) rfl
  have x101 := hx 101 s101 (by kernel_rfl) rfl
  have x102 := hx 102 s102 (by kernel_rfl) rfl
  have x103 := hx 103 s103 (by kernel_rfl) rfl
  have x104 := hx 104 s104 (by kernel_rfl) rfl
  have x105 := hx 105 s105 (by kernel_rfl) rfl
  have x106 := hx 106 s106 (by kernel_rfl) rfl
  have x107 := hx 107 s107 (by kernel_rfl) rfl
  have x108 := hx 108 s108 (by kernel_rfl) rfl
  have x109 := hx 109 s109 (by kernel_rfl) rfl
  have x110 := hx 110 s110 (by kernel_rfl) rfl
  have x111 := hx 111 s111 (by kernel_rfl) rfl
  have x112 := hx 112 s112 (by kernel_rfl) rfl
  have x113 := hx 113 s113 (by kernel_rfl) rfl
  have x114 := hx 114 s114 (by kernel_rfl) rfl
  have x115 := hx 115 s115 (by kernel_rfl) rfl
  have x116 := hx 116 s116 (by kernel_rfl) rfl
  have x117 := hx 117 s117 (by kernel_rfl) rfl
  have x118 := hx 118 s118 (by kernel_rfl) rfl
  have x119 := hx 119 s119 (by kernel_rfl) rfl
  have x120 := hx 120 s120 (by kernel_rfl) rfl
  have x121 := hx 121 s121 (by kernel_rfl) rfl
  have x122 := hx 122 s122 (by kernel_rfl) rfl
  have x123 := hx 123 s123 (by kernel_rfl) rfl
  have x124 := hx 124 s124 (by kernel_rfl) rfl
  have x125 := hx 125 s125 (by kernel_rfl) rfl
  have x126 := hx 126 s126 (by kernel_rfl) rfl
  have x127 := hx 127 s127 (by kernel_rfl) rfl
  have x128 := hx 128 s128 (by kernel_rfl) rfl
  have x129 := hx 129 s129 (by kernel_rfl) rfl
  have x130 := hx 130 s130 (by kernel_rfl) rfl
  have x131 := hx 131 s131 (by kernel_rfl) rfl
  have x132 := hx 132 s132 (by kernel_rfl) rfl
  have hl : a.tmps = (s0 :: s1 :: (.slice Av nv cv : Value) :: (.pointer (some ⟨b, 0, none⟩) : Value) :: (.pointer (some ⟨b + 1, 0, none⟩) : Value) :: s5 :: s6 :: s7 :: s8 :: (.int .i64 (valB vs la) : Value) :: (.int .i64 (valB vs lb) : Value) :: s11 :: s12 :: s13 :: s14 :: s15 :: s16 :: s17 :: s18 :: s19 :: s20 :: s21 :: s22 :: s23 :: s24 :: s25 :: s26 :: s27 :: s28 :: s29 :: s30 :: s31 :: s32 :: s33 :: s34 :: s35 :: s36 :: s37 :: s38 :: s39 :: s40 :: s41 :: s42 :: s43 :: s44 :: s45 :: s46 :: s47 :: s48 :: s49 :: s50 :: s51 :: s52 :: s53 :: s54 :: s55 :: s56 :: s57 :: s58 :: s59 :: s60 :: s61 :: s62 :: s63 :: s64 :: (lvV Aa ca la : Value) :: (.slice Av nv cv : Value) :: (.int .i64 (valB vs la) : Value) :: (lvV Ab cb lb : Value) :: (.slice Av nv cv : Value) :: (.int .i64 (valB vs lb) : Value) :: s71 :: s72 :: s73 :: s74 :: s75 :: s76 :: s77 :: s78 :: s79 :: s80 :: s81 :: s82 :: s83 :: s84 :: s85 :: s86 :: s87 :: s88 :: s89 :: s90 :: s91 :: s92 :: s93 :: s94 :: s95 :: s96 :: s97 :: s98 :: s99 :: s100 :: s101 :: s102 :: s103 :: s104 :: s105 :: s106 :: s107 :: s108 :: s109 :: s110 :: s111 :: s112 :: s113 :: s114 :: s115 :: s116 :: s117 :: s118 :: s119 :: s120 :: s121 :: s122 :: s123 :: s124 :: s125 :: s126 :: s127 :: s128 :: s129 :: s130 :: s131 :: s132 :: ([] : List Value)).toArray := by
    have h := lit a.tmps 133 hs
    have e : ((List.range 133).map (fun i => a.tmps.getD i undef)).toArray = ((a.tmps.getD 0 undef : Value) :: (a.tmps.getD 1 undef : Value) :: (a.tmps.getD 2 undef : Value) :: (a.tmps.getD 3 undef : Value) :: (a.tmps.getD 4 undef : Value) :: (a.tmps.getD 5 undef : Value) :: (a.tmps.getD 6 undef : Value) :: (a.tmps.getD 7 undef : Value) :: (a.tmps.getD 8 undef : Value) :: (a.tmps.getD 9 undef : Value) :: (a.tmps.getD 10 undef : Value) :: (a.tmps.getD 11 undef : Value) :: (a.tmps.getD 12 undef : Value) :: (a.tmps.getD 13 undef : Value) :: (a.tmps.getD 14 undef : Value) :: (a.tmps.getD 15 undef : Value) :: (a.tmps.getD 16 undef : Value) :: (a.tmps.getD 17 undef : Value) :: (a.tmps.getD 18 undef : Value) :: (a.tmps.getD 19 undef : Value) :: (a.tmps.getD 20 undef : Value) :: (a.tmps.getD 21 undef : Value) :: (a.tmps.getD 22 undef : Value) :: (a.tmps.getD 23 undef : Value) :: (a.tmps.getD 24 undef : Value) :: (a.tmps.getD 25 undef : Value) :: (a.tmps.getD 26 undef : Value) :: (a.tmps.getD 27 undef : Value) :: (a.tmps.getD 28 undef : Value) :: (a.tmps.getD 29 undef : Value) :: (a.tmps.getD 30 undef : Value) :: (a.tmps.getD 31 undef : Value) :: (a.tmps.getD 32 undef : Value) :: (a.tmps.getD 33 undef : Value) :: (a.tmps.getD 34 undef : Value) :: (a.tmps.getD 35 undef : Value) :: (a.tmps.getD 36 undef : Value) :: (a.tmps.getD 37 undef : Value) :: (a.tmps.getD 38 undef : Value) :: (a.tmps.getD 39 undef : Value) :: (a.tmps.getD 40 undef : Value) :: (a.tmps.getD 41 undef : Value) :: (a.tmps.getD 42 undef : Value) :: (a.tmps.getD 43 undef : Value) :: (a.tmps.getD 44 undef : Value) :: (a.tmps.getD 45 undef : Value) :: (a.tmps.getD 46 undef : Value) :: (a.tmps.getD 47 undef : Value) :: (a.tmps.getD 48 undef : Value) :: (a.tmps.getD 49 undef : Value) :: (a.tmps.getD 50 undef : Value) :: (a.tmps.getD 51 undef : Value) :: (a.tmps.getD 52 undef : Value) :: (a.tmps.getD 53 undef : Value) :: (a.tmps.getD 54 undef : Value) :: (a.tmps.getD 55 undef : Value) :: (a.tmps.getD 56 undef : Value) :: (a.tmps.getD 57 undef : Value) :: (a.tmps.getD 58 undef : Value) :: (a.tmps.getD 59 undef : Value) :: (a.tmps.getD 60 undef : Value) :: (a.tmps.getD 61 undef : Value) :: (a.tmps.getD 62 undef : Value) :: (a.tmps.getD 63 undef : Value) :: (a.tmps.getD 64 undef : Value) :: (a.tmps.getD 65 undef : Value) :: (a.tmps.getD 66 undef : Value) :: (a.tmps.getD 67 undef : Value) :: (a.tmps.getD 68 undef : Value) :: (a.tmps.getD 69 undef : Value) :: (a.tmps.getD 70 undef : Value) :: (a.tmps.getD 71 undef : Value) :: (a.tmps.getD 72 undef : Value) :: (a.tmps.getD 73 undef : Value) :: (a.tmps.getD 74 undef : Value) :: (a.tmps.getD 75 undef : Value) :: (a.tmps.getD 76 undef : Value) :: (a.tmps.getD 77 undef : Value) :: (a.tmps.getD 78 undef : Value) :: (a.tmps.getD 79 undef : Value) :: (a.tmps.getD 80 undef : Value) :: (a.tmps.getD 81 undef : Value) :: (a.tmps.getD 82 undef : Value) :: (a.tmps.getD 83 undef : Value) :: (a.tmps.getD 84 undef : Value) :: (a.tmps.getD 85 undef : Value) :: (a.tmps.getD 86 undef : Value) :: (a.tmps.getD 87 undef : Value) :: (a.tmps.getD 88 undef : Value) :: (a.tmps.getD 89 undef : Value) :: (a.tmps.getD 90 undef : Value) :: (a.tmps.getD 91 undef : Value) :: (a.tmps.getD 92 undef : Value) :: (a.tmps.getD 93 undef : Value) :: (a.tmps.getD 94 undef : Value) :: (a.tmps.getD 95 undef : Value) :: (a.tmps.getD 96 undef : Value) :: (a.tmps.getD 97 undef : Value) :: (a.tmps.getD 98 undef : Value) :: (a.tmps.getD 99 undef : Value) :: (a.tmps.getD 100 undef : Value) :: (a.tmps.getD 101 undef : Value) :: (a.tmps.getD 102 undef : Value) :: (a.tmps.getD 103 undef : Value) :: (a.tmps.getD 104 undef : Value) :: (a.tmps.getD 105 undef : Value) :: (a.tmps.getD 106 undef : Value) :: (a.tmps.getD 107 undef : Value) :: (a.tmps.getD 108 undef : Value) :: (a.tmps.getD 109 undef : Value) :: (a.tmps.getD 110 undef : Value) :: (a.tmps.getD 111 undef : Value) :: (a.tmps.getD 112 undef : Value) :: (a.tmps.getD 113 undef : Value) :: (a.tmps.getD 114 undef : Value) :: (a.tmps.getD 115 undef : Value) :: (a.tmps.getD 116 undef : Value) :: (a.tmps.getD 117 undef : Value) :: (a.tmps.getD 118 undef : Value) :: (a.tmps.getD 119 undef : Value) :: (a.tmps.getD 120 undef : Value) :: (a.tmps.getD 121 undef : Value) :: (a.tmps.getD 122 undef : Value) :: (a.tmps.getD 123 undef : Value) :: (a.tmps.getD 124 undef : Value) :: (a.tmps.getD 125 undef : Value) :: (a.tmps.getD 126 undef : Value) :: (a.tmps.getD 127 undef : Value) :: (a.tmps.getD 128 undef : Value) :: (a.tmps.getD 129 undef : Value) :: (a.tmps.getD 130 undef : Value) :: (a.tmps.getD 131 undef : Value) :: (a.tmps.getD 132 undef : Value) :: ([] : List Value)).toArray := rfl
    rw [e, x0, x1, x2, x3, x4, x5, x6, x7, x8, x9, x10, x11, x12, x13, x14, x15, x16, x17, x18, x19, x20, x21, x22, x23, x24, x25, x26, x27, x28, x29, x30, x31, x32, x33, x34, x35, x36, x37, x38, x39, x40, x41, x42, x43, x44, x45, x46, x47, x48, x49, x50, x51, x52, x53, x54, x55, x56, x57, x58, x59, x60, x61, x62, x63, x64, x65, x66, x67, x68, x69, x70, x71, x72, x73, x74, x75, x76, x77, x78, x79, x80, x81, x82, x83, x84, x85, x86, x87, x88, x89, x90, x91, x92, x93, x94, x95, x96, x97, x98, x99, x100, x101, x102, x103, x104, x105, x106, x107, x108, x109, x110, x111, x112, x113, x114, x115, x116, x117, x118, x119, x120, x121, x122, x123, x124, x125, x126, x127, x128, x129, x130, x131, x132] at h
    exact h
  obtain ⟨tmps, defers⟩ := a
  obtain rfl : defers = [] := hd
  have hl' : tmps = _ := hl
  rw [hl']
  have hb' := est2_chg hb
  exact hend w' ⟨hb'.os, hb'.tape, hb'.output, hb'.size, hb'.block⟩

def mg_ops : List Oper := [
  { dst := some 125, op := Go.Op.load 24 (Go.Operand.tmp 3), type := 24, pos := "law.go:102", after := #[], guard := none },
  { dst := some 126, op := Go.Op.move (Go.Operand.tmp 15), type := 29, pos := "law.go:102", after := #[], guard := none },
  { dst := some 127, op := Go.Op.call { callee := Go.Callee.value (Go.Operand.func 14), args := #[Go.Operand.tmp 125, Go.Operand.tmp 126], argTypes := #[24, 29] }, type := 3, pos := "law.go:102", after := #[{ on := 0, ground := Go.Ground.data }, { on := 1, ground := Go.Ground.data }], guard := none },
  { dst := some 128, op := Go.Op.load 24 (Go.Operand.tmp 4), type := 24, pos := "law.go:102", after := #[], guard := none },
  { dst := some 129, op := Go.Op.move (Go.Operand.tmp 15), type := 29, pos := "law.go:102", after := #[], guard := none },
  { dst := some 130, op := Go.Op.call { callee := Go.Callee.value (Go.Operand.func 14), args := #[Go.Operand.tmp 128, Go.Operand.tmp 129], argTypes := #[24, 29] }, type := 3, pos := "law.go:102", after := #[{ on := 3, ground := Go.Ground.data }, { on := 4, ground := Go.Ground.data }, { on := 2, ground := Go.Ground.chain }], guard := none },
  { dst := some 131, op := Go.Op.binOp Go.BinOp.gtr 3 (Go.Operand.tmp 127) (Go.Operand.tmp 130) 3, type := 4, pos := "law.go:102", after := #[{ on := 2, ground := Go.Ground.data }, { on := 5, ground := Go.Ground.data }], guard := none }]
def mg_F (w0 : World) (b : Nat) (Aa Ab Av : Option Addr) (ca cb nv cv : Nat) (la lb : Lv) (vs : List Int) (d : Bool) : Nat → (Nat → Value) → Value → World → (Nat → Prop) → Prop := fun rix => match rix with
  | 0 => fun _ v _ _ => v = lvV Aa ca la
  | 1 => fun _ v _ _ => v = .slice Av nv cv
  | 2 => fun _ v _ _ => v = .int .i64 (valB vs la)
  | 3 => fun _ v _ _ => v = lvV Ab cb lb
  | 4 => fun _ v _ _ => v = .slice Av nv cv
  | 5 => fun _ v _ _ => v = .int .i64 (valB vs lb)
  | 6 => fun _ v _ _ => v = .bool d
  | _ => fun _ _ _ _ => True
def mg_C : Nat → List Nat := fun rix => match rix with
  | _ => []
theorem mg_nw3 : nwB mg_ops.toArray 3 = true := by kernel_rfl
theorem mg_nw4 : nwB mg_ops.toArray 4 = true := by kernel_rfl
theorem mg_nw15 : nwB mg_ops.toArray 15 = true := by kernel_rfl
set_option maxRecDepth 100000 in
set_option maxHeartbeats 8000000 in
theorem mg_obs (w0 : World) (b : Nat) (Aa Ab Av : Option Addr) (ca cb nv cv : Nat) (la lb : Lv) (vs : List Int) (d : Bool) (hxa : w0.heap[b]? = some (.cells #[.int .i64 la.kind, .int .i64 la.num, .slice Aa la.kids.length ca] 24 (0, 0))) (hina : LvS w0 (fun k => k < w0.heap.size) Aa ca la) (hxb : w0.heap[b + 1]? = some (.cells #[.int .i64 lb.kind, .int .i64 lb.num, .slice Ab lb.kids.length cb] 24 (0, 0))) (hinb : LvS w0 (fun k => k < w0.heap.size) Ab cb lb) (hv : ReadsInt w0 .i64 Av nv vs) (hd : decide (valB vs lb < valB vs la) = d) (Q : Exit → Act → World → Prop) (a0 : Act) (hi3 : a0.tmps.getD 3 undef = .pointer (some ⟨b, 0, none⟩)) (hi4 : a0.tmps.getD 4 undef = .pointer (some ⟨b + 1, 0, none⟩)) (hi15 : a0.tmps.getD 15 undef = .slice Av nv cv) :
    ObsE Try.prog mg_ops.toArray Q (est2 0 0 (fun _ => False) (fun _ => False)) mg_C (mg_F w0 b Aa Ab Av ca cb nv cv la lb vs d) a0 w0 mg_ops.toArray.toList 0 := by
  have nw3 := mg_nw3
  have nw4 := mg_nw4
  have nw15 := mg_nw15
  refine ⟨?_, ?_, ?_, ?_, ?_, ?_, ?_, trivial⟩
  · refine ⟨⟨fun τ => stableE_det _, leans_not⟩, ?_⟩
    intro a w O hk
    have e3 : a.eval (.tmp 3) = .pointer (some ⟨b, 0, none⟩) := (hk.init 3 (initialB_of_nw nw3)).trans hi3
    have x3 := hk.world.still hxa (fun ⟨_, h⟩ => h.elim And.right And.right)
    exact obE_loadRow rfl e3 x3 Try.underlying24 rfl (by kernel_rfl) (wanted_none rfl) rfl
  · refine ⟨⟨fun τ => stableE_det _, leans_not⟩, ?_⟩
    intro a w O hk
    have e15 : a.eval (.tmp 15) = .slice Av nv cv := (hk.init 15 (initialB_of_nw nw15)).trans hi15
    exact toE (ob_move rfl e15 (wanted_none rfl) rfl)
  · refine ⟨⟨fun τ => stableE_det _, leans_not⟩, ?_⟩
    intro a w O hk
    have e125 : a.eval (.tmp 125) = lvV Aa ca la := hk.fact 0 _ 125 rfl rfl rfl rfl
    have e126 : a.eval (.tmp 126) = .slice Av nv cv := hk.fact 1 _ 126 rfl rfl rfl rfl
    exact obE_callV #[lvV Aa ca la, .slice Av nv cv] rfl rfl rfl rfl (by simp only [List.map_cons, List.map_nil]; rw [e125, e126]) (wanted_none rfl) (value_calls Aa Av ca nv cv la vs w (LvS.all (LvS.same hina (fun k hk' _ => hk.fix k ((fun k hk' => est2_fix hk' (fun h => h) (fun h => h)) k hk')))) (ReadsInt.still hv fun k hk' => hk.fix k (est2_fix hk' (fun h => h) (fun h => h))))
  · refine ⟨⟨fun τ => stableE_det _, leans_not⟩, ?_⟩
    intro a w O hk
    have e4 : a.eval (.tmp 4) = .pointer (some ⟨b + 1, 0, none⟩) := (hk.init 4 (initialB_of_nw nw4)).trans hi4
    have x4 := hk.world.still hxb (fun ⟨_, h⟩ => h.elim And.right And.right)
    exact obE_loadRow rfl e4 x4 Try.underlying24 rfl (by kernel_rfl) (wanted_none rfl) rfl
  · refine ⟨⟨fun τ => stableE_det _, leans_not⟩, ?_⟩
    intro a w O hk
    have e15 : a.eval (.tmp 15) = .slice Av nv cv := (hk.init 15 (initialB_of_nw nw15)).trans hi15
    exact toE (ob_move rfl e15 (wanted_none rfl) rfl)
  · refine ⟨⟨fun τ => stableE_det _, leans_not⟩, ?_⟩
    intro a w O hk
    have e128 : a.eval (.tmp 128) = lvV Ab cb lb := hk.fact 3 _ 128 rfl rfl rfl rfl
    have e129 : a.eval (.tmp 129) = .slice Av nv cv := hk.fact 4 _ 129 rfl rfl rfl rfl
    exact obE_callV #[lvV Ab cb lb, .slice Av nv cv] rfl rfl rfl rfl (by simp only [List.map_cons, List.map_nil]; rw [e128, e129]) (wanted_none rfl) (value_calls Ab Av cb nv cv lb vs w (LvS.all (LvS.same hinb (fun k hk' _ => hk.fix k ((fun k hk' => est2_fix hk' (fun h => h) (fun h => h)) k hk')))) (ReadsInt.still hv fun k hk' => hk.fix k (est2_fix hk' (fun h => h) (fun h => h))))
  · refine ⟨⟨fun τ => stableE_det _, leans_not⟩, ?_⟩
    intro a w O hk
    have e127 : a.eval (.tmp 127) = .int .i64 (valB vs la) := hk.fact 2 _ 127 rfl rfl rfl rfl
    have e130 : a.eval (.tmp 130) = .int .i64 (valB vs lb) := hk.fact 5 _ 130 rfl rfl rfl rfl
    exact toE (ob_bin rfl e127 e130 (run_gtrB _ _ d hd) (by decide) (wanted_none rfl) rfl)
set_option maxRecDepth 100000 in
set_option maxHeartbeats 8000000 in
theorem mg_region {Q : Exit → Act → World → Prop} {id : Nat} (w0 : World) (b : Nat) (Aa Ab Av : Option Addr) (ca cb nv cv : Nat) (la lb : Lv) (vs : List Int) (d : Bool) {s0 s1 s2 s5 s6 s7 s8 s9 s10 s11 s12 s13 s14 s16 s17 s18 s19 s20 s21 s22 s23 s24 s25 s26 s27 s28 s29 s30 s31 s32 s33 s34 s35 s36 s37 s38 s39 s40 s41 s42 s43 s44 s45 s46 s47 s48 s49 s50 s51 s52 s53 s54 s55 s56 s57 s58 s59 s60 s61 s62 s63 s64 s65 s66 s67 s68 s69 s70 s71 s72 s73 s74 s75 s76 s77 s78 s79 s80 s81 s82 s83 s84 s85 s86 s87 s88 s89 s90 s91 s92 s93 s94 s95 s96 s97 s98 s99 s100 s101 s102 s103 s104 s105 s106 s107 s108 s109 s110 s111 s112 s113 s114 s115 s116 s117 s118 s119 s120 s121 s122 s123 s124 s125 s126 s127 s128 s129 s130 s131 s132 : Value} (hxa : w0.heap[b]? = some (.cells #[.int .i64 la.kind, .int .i64 la.num, .slice Aa la.kids.length ca] 24 (0, 0))) (hina : LvS w0 (fun k => k < w0.heap.size) Aa ca la) (hxb : w0.heap[b + 1]? = some (.cells #[.int .i64 lb.kind, .int .i64 lb.num, .slice Ab lb.kids.length cb] 24 (0, 0))) (hinb : LvS w0 (fun k => k < w0.heap.size) Ab cb lb) (hv : ReadsInt w0 .i64 Av nv vs) (hd : decide (valB vs lb < valB vs la) = d)
    (hend : ∀ (w' : World), Chg (fun k => False ∨ False) w0 w' → Q .normal { tmps := (s0 :: s1 :: s2 :: (.pointer (some ⟨b, 0, none⟩) : Value) :: (.pointer (some ⟨b + 1, 0, none⟩) : Value) :: s5 :: s6 :: s7 :: s8 :: s9 :: s10 :: s11 :: s12 :: s13 :: s14 :: (.slice Av nv cv : Value) :: s16 :: s17 :: s18 :: s19 :: s20 :: s21 :: s22 :: s23 :: s24 :: s25 :: s26 :: s27 :: s28 :: s29 :: s30 :: s31 :: s32 :: s33 :: s34 :: s35 :: s36 :: s37 :: s38 :: s39 :: s40 :: s41 :: s42 :: s43 :: s44 :: s45 :: s46 :: s47 :: s48 :: s49 :: s50 :: s51 :: s52 :: s53 :: s54 :: s55 :: s56 :: s57 :: s58 :: s59 :: s60 :: s61 :: s62 :: s63 :: s64 :: s65 :: s66 :: s67 :: s68 :: s69 :: s70 :: s71 :: s72 :: s73 :: s74 :: s75 :: s76 :: s77 :: s78 :: s79 :: s80 :: s81 :: s82 :: s83 :: s84 :: s85 :: s86 :: s87 :: s88 :: s89 :: s90 :: s91 :: s92 :: s93 :: s94 :: s95 :: s96 :: s97 :: s98 :: s99 :: s100 :: s101 :: s102 :: s103 :: s104 :: s105 :: s106 :: s107 :: s108 :: s109 :: s110 :: s111 :: s112 :: s113 :: s114 :: s115 :: s116 :: s117 :: s118 :: s119 :: s120 :: s121 :: s122 :: s123 :: s124 :: (lvV Aa ca la : Value) :: (.slice Av nv cv : Value) :: (.int .i64 (valB vs la) : Value) :: (lvV Ab cb lb : Value) :: (.slice Av nv cv : Value) :: (.int .i64 (valB vs lb) : Value) :: (.bool d : Value) :: s132 :: ([] : List Value)).toArray, defers := [] } w') :
    (Code.region id mg_ops.toArray true).wp Try.prog Q { tmps := (s0 :: s1 :: s2 :: (.pointer (some ⟨b, 0, none⟩) : Value) :: (.pointer (some ⟨b + 1, 0, none⟩) : Value) :: s5 :: s6 :: s7 :: s8 :: s9 :: s10 :: s11 :: s12 :: s13 :: s14 :: (.slice Av nv cv : Value) :: s16 :: s17 :: s18 :: s19 :: s20 :: s21 :: s22 :: s23 :: s24 :: s25 :: s26 :: s27 :: s28 :: s29 :: s30 :: s31 :: s32 :: s33 :: s34 :: s35 :: s36 :: s37 :: s38 :: s39 :: s40 :: s41 :: s42 :: s43 :: s44 :: s45 :: s46 :: s47 :: s48 :: s49 :: s50 :: s51 :: s52 :: s53 :: s54 :: s55 :: s56 :: s57 :: s58 :: s59 :: s60 :: s61 :: s62 :: s63 :: s64 :: s65 :: s66 :: s67 :: s68 :: s69 :: s70 :: s71 :: s72 :: s73 :: s74 :: s75 :: s76 :: s77 :: s78 :: s79 :: s80 :: s81 :: s82 :: s83 :: s84 :: s85 :: s86 :: s87 :: s88 :: s89 :: s90 :: s91 :: s92 :: s93 :: s94 :: s95 :: s96 :: s97 :: s98 :: s99 :: s100 :: s101 :: s102 :: s103 :: s104 :: s105 :: s106 :: s107 :: s108 :: s109 :: s110 :: s111 :: s112 :: s113 :: s114 :: s115 :: s116 :: s117 :: s118 :: s119 :: s120 :: s121 :: s122 :: s123 :: s124 :: s125 :: s126 :: s127 :: s128 :: s129 :: s130 :: s131 :: s132 :: ([] : List Value)).toArray, defers := [] } w0 := by
  refine wp_region_est (by kernel_rfl) (est2 0 0 (fun _ => False) (fun _ => False)) mg_C (mg_F w0 b Aa Ab Av ca cb nv cv la lb vs d) (est2_dis (fun _ h _ => h)) (est2_range (fun _ h => h.elim) (fun _ h => h.elim)) (by rfl) (by kernel_rfl) (mg_obs w0.drew b Aa Ab Av ca cb nv cv la lb vs d hxa (LvS.later hina (below_drew (Below.refl _ _))) hxb (LvS.later hinb (below_drew (Below.refl _ _))) (hv.below (below_drew (Below.refl _ _))) hd _ _ rfl rfl rfl) ?_
  intro a w' O hd hs hb hf hf2 ha hsame
  have hx : ∀ (qi : Nat) (qv : Value), nwB mg_ops.toArray qi = true → (s0 :: s1 :: s2 :: (.pointer (some ⟨b, 0, none⟩) : Value) :: (.pointer (some ⟨b + 1, 0, none⟩) : Value) :: s5 :: s6 :: s7 :: s8 :: s9 :: s10 :: s11 :: s12 :: s13 :: s14 :: (.slice Av nv cv : Value) :: s16 :: s17 :: s18 :: s19 :: s20 :: s21 :: s22 :: s23 :: s24 :: s25 :: s26 :: s27 :: s28 :: s29 :: s30 :: s31 :: s32 :: s33 :: s34 :: s35 :: s36 :: s37 :: s38 :: s39 :: s40 :: s41 :: s42 :: s43 :: s44 :: s45 :: s46 :: s47 :: s48 :: s49 :: s50 :: s51 :: s52 :: s53 :: s54 :: s55 :: s56 :: s57 :: s58 :: s59 :: s60 :: s61 :: s62 :: s63 :: s64 :: s65 :: s66 :: s67 :: s68 :: s69 :: s70 :: s71 :: s72 :: s73 :: s74 :: s75 :: s76 :: s77 :: s78 :: s79 :: s80 :: s81 :: s82 :: s83 :: s84 :: s85 :: s86 :: s87 :: s88 :: s89 :: s90 :: s91 :: s92 :: s93 :: s94 :: s95 :: s96 :: s97 :: s98 :: s99 :: s100 :: s101 :: s102 :: s103 :: s104 :: s105 :: s106 :: s107 :: s108 :: s109 :: s110 :: s111 :: s112 :: s113 :: s114 :: s115 :: s116 :: s117 :: s118 :: s119 :: s120 :: s121 :: s122 :: s123 :: s124 :: s125 :: s126 :: s127 :: s128 :: s129 :: s130 :: s131 :: s132 :: ([] : List Value)).toArray.getD qi undef = qv → a.tmps.getD qi undef = qv := fun qi qv h e => (hsame qi (nwB.spec h)).trans e
  have x0 := hx 0 s0 (by kernel_rfl) rfl
  have x1 := hx 1 s1 (by kernel_rfl) rfl
  have x2 := hx 2 s2 (by kernel_rfl) rfl
  have x3 := hx 3 (.pointer (some ⟨b, 0, none⟩)) (by kernel_rfl) rfl
  have x4 := hx 4 (.pointer (some ⟨b + 1, 0, none⟩)) (by kernel_rfl) rfl
  have x5 := hx 5 s5 (by kernel_rfl) rfl
  have x6 := hx 6 s6 (by kernel_rfl) rfl
  have x7 := hx 7 s7 (by kernel_rfl) rfl
  have x8 := hx 8 s8 (by kernel_rfl) rfl
  have x9 := hx 9 s9 (by kernel_rfl) rfl
  have x10 := hx 10 s10 (by kernel_rfl) rfl
  have x11 := hx 11 s11 (by kernel_rfl) rfl
  have x12 := hx 12 s12 (by kernel_rfl) rfl
  have x13 := hx 13 s13 (by kernel_rfl) rfl
  have x14 := hx 14 s14 (by kernel_rfl) rfl
  have x15 := hx 15 (.slice Av nv cv) (by kernel_rfl) rfl
  have x16 := hx 16 s16 (by kernel_rfl) rfl
  have x17 := hx 17 s17 (by kernel_rfl) rfl
  have x18 := hx 18 s18 (by kernel_rfl) rfl
  have x19 := hx 19 s19 (by kernel_rfl) rfl
  have x20 := hx 20 s20 (by kernel_rfl) rfl
  have x21 := hx 21 s21 (by kernel_rfl) rfl
  have x22 := hx 22 s22 (by kernel_rfl) rfl
  have x23 := hx 23 s23 (by kernel_rfl) rfl
  have x24 := hx 24 s24 (by kernel_rfl) rfl
  have x25 := hx 25 s25 (by kernel_rfl) rfl
  have x26 := hx 26 s26 (by kernel_rfl) rfl
  have x27 := hx 27 s27 (by kernel_rfl) rfl
  have x28 := hx 28 s28 (by kernel_rfl) rfl
  have x29 := hx 29 s29 (by kernel_rfl) rfl
  have x30 := hx 30 s30 (by kernel_rfl) rfl
  have x31 := hx 31 s31 (by kernel_rfl) rfl
  have x32 := hx 32 s32 (by kernel_rfl) rfl
  have x33 := hx 33 s33 (by kernel_rfl) rfl
  have x34 := hx 34 s34 (by kernel_rfl) rfl
  have x35 := hx 35 s35 (by kernel_rfl) rfl
  have x36 := hx 36 s36 (by kernel_rfl) rfl
  have x37 := hx 37 s37 (by kernel_rfl) rfl
  have x38 := hx 38 s38 (by kernel_rfl) rfl
  have x39 := hx 39 s39 (by kernel_rfl) rfl
  have x40 := hx 40 s40 (by kernel_rfl) rfl
  have x41 := hx 41 s41 (by kernel_rfl) rfl
  have x42 := hx 42 s42 (by kernel_rfl) rfl
  have x43 := hx 43 s43 (by kernel_rfl) rfl
  have x44 := hx 44 s44 (by kernel_rfl) rfl
  have x45 := hx 45 s45 (by kernel_rfl) rfl
  have x46 := hx 46 s46 (by kernel_rfl) rfl
  have x47 := hx 47 s47 (by kernel_rfl) rfl
  have x48 := hx 48 s48 (by kernel_rfl) rfl
  have x49 := hx 49 s49 (by kernel_rfl) rfl
  have x50 := hx 50 s50 (by kernel_rfl) rfl
  have x51 := hx 51 s51 (by kernel_rfl) rfl
  have x52 := hx 52 s52 (by kernel_rfl) rfl
  have x53 := hx 53 s53 (by kernel_rfl) rfl
  have x54 := hx 54 s54 (by kernel_rfl) rfl
  have x55 := hx 55 s55 (by kernel_rfl) rfl
  have x56 := hx 56 s56 (by kernel_rfl) rfl
  have x57 := hx 57 s57 (by kernel_rfl) rfl
  have x58 := hx 58 s58 (by kernel_rfl) rfl
  have x59 := hx 59 s59 (by kernel_rfl) rfl
  have x60 := hx 60 s60 (by kernel_rfl) rfl
  have x61 := hx 61 s61 (by kernel_rfl) rfl
  have x62 := hx 62 s62 (by kernel_rfl) rfl
  have x63 := hx 63 s63 (by kernel_rfl) rfl
  have x64 := hx 64 s64 (by kernel_rfl) rfl
  have x65 := hx 65 s65 (by kernel_rfl) rfl
  have x66 := hx 66 s66 (by kernel_rfl) rfl
  have x67 := hx 67 s67 (by kernel_rfl) rfl
  have x68 := hx 68 s68 (by kernel_rfl) rfl
  have x69 := hx 69 s69 (by kernel_rfl) rfl
  have x70 := hx 70 s70 (by kernel_rfl) rfl
  have x71 := hx 71 s71 (by kernel_rfl) rfl
  have x72 := hx 72 s72 (by kernel_rfl) rfl
  have x73 := hx 73 s73 (by kernel_rfl) rfl
  have x74 := hx 74 s74 (by kernel_rfl) rfl
  have x75 := hx 75 s75 (by kernel_rfl) rfl
  have x76 := hx 76 s76 (by kernel_rfl) rfl
  have x77 := hx 77 s77 (by kernel_rfl) rfl
  have x78 := hx 78 s78 (by kernel_rfl) rfl
  have x79 := hx 79 s79 (by kernel_rfl) rfl
  have x80 := hx 80 s80 (by kernel_rfl) rfl
  have x81 := hx 81 s81 (by kernel_rfl) rfl
  have x82 := hx 82 s82 (by kernel_rfl) rfl
  have x83 := hx 83 s83 (by kernel_rfl) rfl
  have x84 := hx 84 s84 (by kernel_rfl) rfl
  have x85 := hx 85 s85 (by kernel_rfl) rfl
  have x86 := hx 86 s86 (by kernel_rfl) rfl
  have x87 := hx 87 s87 (by kernel_rfl) rfl
  have x88 := hx 88 s88 (by kernel_rfl) rfl
  have x89 := hx 89 s89 (by kernel_rfl) rfl
  have x90 := hx 90 s90 (by kernel_rfl) rfl
  have x91 := hx 91 s91 (by kernel_rfl) rfl
  have x92 := hx 92 s92 (by kernel_rfl) rfl
  have x93 := hx 93 s93 (by kernel_rfl) rfl
  have x94 := hx 94 s94 (by kernel_rfl) rfl
  have x95 := hx 95 s95 (by kernel_rfl) rfl
  have x96 := hx 96 s96 (by kernel_rfl) rfl
  have x97 := hx 97 s97 (by kernel_rfl) rfl
  have x98 := hx 98 s98 (by kernel_rfl) rfl
  have x99 := hx 99 s99 (by kernel_rfl) rfl
  have x100 := hx 100 s100 (by kernel_rfl) rfl
  have x101 := hx 101 s101 (by kernel_rfl) rfl
  have x102 := hx 102 s102 (by kernel_rfl) rfl
  have x103 := hx 103 s103 (by kernel_rfl) rfl
  have x104 := hx 104 s104 (by kernel_rfl) rfl
  have x105 := hx 105 s105 (by kernel_rfl) rfl
  have x106 := hx 106 s106 (by kernel_rfl) rfl
  have x107 := hx 107 s107 (by kernel_rfl) rfl
  have x108 := hx 108 s108 (by kernel_rfl) rfl
  have x109 := hx 109 s109 (by kernel_rfl) rfl
  have x110 := hx 110 s110 (by kernel_rfl) rfl
  have x111 := hx 111 s111 (by kernel_rfl) rfl
  have x112 := hx 112 s112 (by kernel_rfl) rfl
  have x113 := hx 113 s113 (by kernel_rfl) rfl
  have x114 := hx 114 s114 (by kernel_rfl) rfl
  have x115 := hx 115 s115 (by kernel_rfl) rfl
  have x116 := hx 116 s116 (by kernel_rfl) rfl
  have x117 := hx 117 s117 (by kernel_rfl) rfl
  have x118 := hx 118 s118 (by kernel_rfl) rfl
  have x119 := hx 119 s119 (by kernel_rfl) rfl
  have x120 := hx 120 s120 (by kernel_rfl) rfl
  have x121 := hx 121 s121 (by kernel_rfl) rfl
  have x122 := hx 122 s122 (by kernel_rfl) rfl
  have x123 := hx 123 s123 (by kernel_rfl) rfl
  have x124 := hx 124 s124 (by kernel_rfl) rfl
  have x125 : a.tmps.getD 125 undef = lvV Aa ca la := (hf 0 _ 125 rfl rfl (by decide)).1
  have x126 : a.tmps.getD 126 undef = .slice Av nv cv := (hf 1 _ 126 rfl rfl (by decide)).1
  have x127 : a.tmps.getD 127 undef = .int .i64 (valB vs la) := (hf 2 _ 127 rfl rfl (by decide)).1
  have x128 : a.tmps.getD 128 undef = lvV Ab cb lb := (hf 3 _ 128 rfl rfl (by decide)).1
  have x129 : a.tmps.getD 129 undef = .slice Av nv cv := (hf 4 _ 129 rfl rfl (by decide)).1
  have x130 : a.tmps.getD 130 undef = .int .i64 (valB vs lb) := (hf 5 _ 130 rfl rfl (by decide)).1
  have x131 : a.tmps.getD 131 undef = .bool d := (hf 6 _ 131 rfl rfl (by decide)).1
  have x132 := hx 132 s132 (by kernel_rfl) rfl
  have hl : a.tmps = (s0 :: s1 :: s2 :: (.pointer (some ⟨b, 0, none⟩) : Value) :: (.pointer (some ⟨b + 1, 0, none⟩) : Value) :: s5 :: s6 :: s7 :: s8 :: s9 :: s10 :: s11 :: s12 :: s13 :: s14 :: (.slice Av nv cv : Value) :: s16 :: s17 :: s18 :: s19 :: s20 :: s21 :: s22 :: s23 :: s24 :: s25 :: s26 :: s27 :: s28 :: s29 :: s30 :: s31 :: s32 :: s33 :: s34 :: s35 :: s36 :: s37 :: s38 :: s39 :: s40 :: s41 :: s42 :: s43 :: s44 :: s45 :: s46 :: s47 :: s48 :: s49 :: s50 :: s51 :: s52 :: s53 :: s54 :: s55 :: s56 :: s57 :: s58 :: s59 :: s60 :: s61 :: s62 :: s63 :: s64 :: s65 :: s66 :: s67 :: s68 :: s69 :: s70 :: s71 :: s72 :: s73 :: s74 :: s75 :: s76 :: s77 :: s78 :: s79 :: s80 :: s81 :: s82 :: s83 :: s84 :: s85 :: s86 :: s87 :: s88 :: s89 :: s90 :: s91 :: s92 :: s93 :: s94 :: s95 :: s96 :: s97 :: s98 :: s99 :: s100 :: s101 :: s102 :: s103 :: s104 :: s105 :: s106 :: s107 :: s108 :: s109 :: s110 :: s111 :: s112 :: s113 :: s114 :: s115 :: s116 :: s117 :: s118 :: s119 :: s120 :: s121 :: s122 :: s123 :: s124 :: (lvV Aa ca la : Value) :: (.slice Av nv cv : Value) :: (.int .i64 (valB vs la) : Value) :: (lvV Ab cb lb : Value) :: (.slice Av nv cv : Value) :: (.int .i64 (valB vs lb) : Value) :: (.bool d : Value) :: s132 :: ([] : List Value)).toArray := by
    have h := lit a.tmps 133 hs
    have e : ((List.range 133).map (fun i => a.tmps.getD i undef)).toArray = ((a.tmps.getD 0 undef : Value) :: (a.tmps.getD 1 undef : Value) :: (a.tmps.getD 2 undef : Value) :: (a.tmps.getD 3 undef : Value) :: (a.tmps.getD 4 undef : Value) :: (a.tmps.getD 5 undef : Value) :: (a.tmps.getD 6 undef : Value) :: (a.tmps.getD 7 undef : Value) :: (a.tmps.getD 8 undef : Value) :: (a.tmps.getD 9 undef : Value) :: (a.tmps.getD 10 undef : Value) :: (a.tmps.getD 11 undef : Value) :: (a.tmps.getD 12 undef : Value) :: (a.tmps.getD 13 undef : Value) :: (a.tmps.getD 14 undef : Value) :: (a.tmps.getD 15 undef : Value) :: (a.tmps.getD 16 undef : Value) :: (a.tmps.getD 17 undef : Value) :: (a.tmps.getD 18 undef : Value) :: (a.tmps.getD 19 undef : Value) :: (a.tmps.getD 20 undef : Value) :: (a.tmps.getD 21 undef : Value) :: (a.tmps.getD 22 undef : Value) :: (a.tmps.getD 23 undef : Value) :: (a.tmps.getD 24 undef : Value) :: (a.tmps.getD 25 undef : Value) :: (a.tmps.getD 26 undef : Value) :: (a.tmps.getD 27 undef : Value) :: (a.tmps.getD 28 undef : Value) :: (a.tmps.getD 29 undef : Value) :: (a.tmps.getD 30 undef : Value) :: (a.tmps.getD 31 undef : Value) :: (a.tmps.getD 32 undef : Value) :: (a.tmps.getD 33 undef : Value) :: (a.tmps.getD 34 undef : Value) :: (a.tmps.getD 35 undef : Value) :: (a.tmps.getD 36 undef : Value) :: (a.tmps.getD 37 undef : Value) :: (a.tmps.getD 38 undef : Value) :: (a.tmps.getD 39 undef : Value) :: (a.tmps.getD 40 undef : Value) :: (a.tmps.getD 41 undef : Value) :: (a.tmps.getD 42 undef : Value) :: (a.tmps.getD 43 undef : Value) :: (a.tmps.getD 44 undef : Value) :: (a.tmps.getD 45 undef : Value) :: (a.tmps.getD 46 undef : Value) :: (a.tmps.getD 47 undef : Value) :: (a.tmps.getD 48 undef : Value) :: (a.tmps.getD 49 undef : Value) :: (a.tmps.getD 50 undef : Value) :: (a.tmps.getD 51 undef : Value) :: (a.tmps.getD 52 undef : Value) :: (a.tmps.getD 53 undef : Value) :: (a.tmps.getD 54 undef : Value) :: (a.tmps.getD 55 undef : Value) :: (a.tmps.getD 56 undef : Value) :: (a.tmps.getD 57 undef : Value) :: (a.tmps.getD 58 undef : Value) :: (a.tmps.getD 59 undef : Value) :: (a.tmps.getD 60 undef : Value) :: (a.tmps.getD 61 undef : Value) :: (a.tmps.getD 62 undef : Value) :: (a.tmps.getD 63 undef : Value) :: (a.tmps.getD 64 undef : Value) :: (a.tmps.getD 65 undef : Value) :: (a.tmps.getD 66 undef : Value) :: (a.tmps.getD 67 undef : Value) :: (a.tmps.getD 68 undef : Value) :: (a.tmps.getD 69 undef : Value) :: (a.tmps.getD 70 undef : Value) :: (a.tmps.getD 71 undef : Value) :: (a.tmps.getD 72 undef : Value) :: (a.tmps.getD 73 undef : Value) :: (a.tmps.getD 74 undef : Value) :: (a.tmps.getD 75 undef : Value) :: (a.tmps.getD 76 undef : Value) :: (a.tmps.getD 77 undef : Value) :: (a.tmps.getD 78 undef : Value) :: (a.tmps.getD 79 undef : Value) :: (a.tmps.getD 80 undef : Value) :: (a.tmps.getD 81 undef : Value) :: (a.tmps.getD 82 undef : Value) :: (a.tmps.getD 83 undef : Value) :: (a.tmps.getD 84 undef : Value) :: (a.tmps.getD 85 undef : Value) :: (a.tmps.getD 86 undef : Value) :: (a.tmps.getD 87 undef : Value) :: (a.tmps.getD 88 undef : Value) :: (a.tmps.getD 89 undef : Value) :: (a.tmps.getD 90 undef : Value) :: (a.tmps.getD 91 undef : Value) :: (a.tmps.getD 92 undef : Value) :: (a.tmps.getD 93 undef : Value) :: (a.tmps.getD 94 undef : Value) :: (a.tmps.getD 95 undef : Value) :: (a.tmps.getD 96 undef : Value) :: (a.tmps.getD 97 undef : Value) :: (a.tmps.getD 98 undef : Value) :: (a.tmps.getD 99 undef : Value) :: (a.tmps.getD 100 undef : Value) :: (a.tmps.getD 101 undef : Value) :: (a.tmps.getD 102 undef : Value) :: (a.tmps.getD 103 undef : Value) :: (a.tmps.getD 104 undef : Value) :: (a.tmps.getD 105 undef : Value) :: (a.tmps.getD 106 undef : Value) :: (a.tmps.getD 107 undef : Value) :: (a.tmps.getD 108 undef : Value) :: (a.tmps.getD 109 undef : Value) :: (a.tmps.getD 110 undef : Value) :: (a.tmps.getD 111 undef : Value) :: (a.tmps.getD 112 undef : Value) :: (a.tmps.getD 113 undef : Value) :: (a.tmps.getD 114 undef : Value) :: (a.tmps.getD 115 undef : Value) :: (a.tmps.getD 116 undef : Value) :: (a.tmps.getD 117 undef : Value) :: (a.tmps.getD 118 undef : Value) :: (a.tmps.getD 119 undef : Value) :: (a.tmps.getD 120 undef : Value) :: (a.tmps.getD 121 undef : Value) :: (a.tmps.getD 122 undef : Value) :: (a.tmps.getD 123 undef : Value) :: (a.tmps.getD 124 undef : Value) :: (a.tmps.getD 125 undef : Value) :: (a.tmps.getD 126 undef : Value) :: (a.tmps.getD 127 undef : Value) :: (a.tmps.getD 128 undef : Value) :: (a.tmps.getD 129 undef : Value) :: (a.tmps.getD 130 undef : Value) :: (a.tmps.getD 131 undef : Value) :: (a.tmps.getD 132 undef : Value) :: ([] : List Value)).toArray := rfl
    rw [e, x0, x1, x2, x3, x4, x5, x6, x7, x8, x9, x10, x11, x12, x13, x14, x15, x16, x17, x18, x19, x20, x21, x22, x23, x24, x25, x26, x27, x28, x29, x30, x31, x32, x33, x34, x35, x36, x37, x38, x39, x40, x41, x42, x43, x44, x45, x46, x47, x48, x49, x50, x51, x52, x53, x54, x55, x56, x57, x58, x59, x60, x61, x62, x63, x64, x65, x66, x67, x68, x69, x70, x71, x72, x73, x74, x75, x76, x77, x78, x79, x80, x81, x82, x83, x84, x85, x86, x87, x88, x89, x90, x91, x92, x93, x94, x95, x96, x97, x98, x99, x100, x101, x102, x103, x104, x105, x106, x107, x108, x109, x110, x111, x112, x113, x114, x115, x116, x117, x118, x119, x120, x121, x122, x123, x124, x125, x126, x127, x128, x129, x130, x131, x132] at h
    exact h
  obtain ⟨tmps, defers⟩ := a
  obtain rfl : defers = [] := hd
  have hl' : tmps = _ := hl
  rw [hl']
  have hb' := est2_chg hb
  exact hend w' ⟨hb'.os, hb'.tape, hb'.output, hb'.size, hb'.block⟩

def mr_ops : List Oper := [
  { dst := some 71, op := Go.Op.load 24 (Go.Operand.tmp 3), type := 24, pos := "law.go:89", after := #[], guard := none },
  { dst := some 72, op := Go.Op.call { callee := Go.Callee.value (Go.Operand.func 25), args := #[Go.Operand.tmp 71], argTypes := #[24] }, type := 24, pos := "law.go:89", after := #[{ on := 0, ground := Go.Ground.data }], guard := none },
  { dst := some 11, op := Go.Op.alloc 24, type := 0, pos := "law.go:89", after := #[], guard := none },
  { dst := none, op := Go.Op.store 24 (Go.Operand.tmp 11) (Go.Operand.tmp 72), type := 0, pos := "law.go:89", after := #[{ on := 2, ground := Go.Ground.data }, { on := 1, ground := Go.Ground.data }, { on := 1, ground := Go.Ground.chain }, { on := 0, ground := Go.Ground.phase }, { on := 1, ground := Go.Ground.phase }, { on := 2, ground := Go.Ground.phase }], guard := none }]
def mr_F (w0 : World) (b : Nat) (Aa : Option Addr) (ca : Nat) (la : Lv) : Nat → (Nat → Value) → Value → World → (Nat → Prop) → Prop := fun rix => match rix with
  | 0 => fun _ v _ _ => v = lvV Aa ca la
  | 1 => fun τ v w O => LvV (fun k => k < w0.heap.size) (redP (la)) v w O
  | 2 => fun τ v w O => ∃ p, v = .pointer (some ⟨p, 0, none⟩) ∧ w.heap[p]? = some (.cells #[.int .i64 0, .int .i64 0, .slice none 0 0] 24 (0, 0)) ∧ O p
  | 3 => fun τ v w O => ∃ p, τ 11 = .pointer (some ⟨p, 0, none⟩) ∧ LvBox p (fun k => k < w0.heap.size) (redP (la)) w O
  | _ => fun _ _ _ _ => True
def mr_C : Nat → List Nat := fun rix => match rix with
  | 3 => [2, 1]
  | _ => []
theorem mr_nw3 : nwB mr_ops.toArray 3 = true := by kernel_rfl
set_option maxRecDepth 100000 in
set_option maxHeartbeats 8000000 in
theorem mr_obs (w0 : World) (b : Nat) (Aa : Option Addr) (ca : Nat) (la : Lv) (hxa : w0.heap[b]? = some (.cells #[.int .i64 la.kind, .int .i64 la.num, .slice Aa la.kids.length ca] 24 (0, 0))) (hina : LvS w0 (fun k => k < w0.heap.size) Aa ca la) (hsa : soundB la = true) (Q : Exit → Act → World → Prop) (a0 : Act) (hi3 : a0.tmps.getD 3 undef = .pointer (some ⟨b, 0, none⟩)) :
    ObsE Try.prog mr_ops.toArray Q (est2 0 0 (fun _ => False) (fun _ => False)) mr_C (mr_F w0 b Aa ca la) a0 w0 mr_ops.toArray.toList 0 := by
  have nw3 := mr_nw3
  refine ⟨?_, ?_, ?_, ?_, trivial⟩
  · refine ⟨⟨fun τ => stableE_det _, leans_not⟩, ?_⟩
    intro a w O hk
    have e3 : a.eval (.tmp 3) = .pointer (some ⟨b, 0, none⟩) := (hk.init 3 (initialB_of_nw nw3)).trans hi3
    have x3 := hk.world.still hxa (fun ⟨_, h⟩ => h.elim And.right And.right)
    exact obE_loadRow rfl e3 x3 Try.underlying24 rfl (by kernel_rfl) (wanted_none rfl) rfl
  · refine ⟨⟨fun τ => stableE_lv (fun k hk' => est2_fix hk' (fun h => h) (fun h => h)), leans_not⟩, ?_⟩
    intro a w O hk
    have e71 : a.eval (.tmp 71) = lvV Aa ca la := hk.fact 0 _ 71 rfl rfl rfl rfl
    exact obE_lvReduce rfl (wanted_none rfl) (show LvV (fun k => k < w0.heap.size) la (a.eval (.tmp 71)) w (fun _ => False) by rw [e71]; exact LvV.old hina (fun k hk' => est2_fix hk' (fun h => h) (fun h => h)) hk.fix) hsa
  · refine ⟨⟨fun τ => stableE_ex fun p => stableE_and stableE_pure (stableE_block _ _), leans_not⟩, ?_⟩
    intro a w O hk
    exact obE_lvBox (wanted_none rfl) (by unfold execOp; simp only []; go_simp)
  · refine ⟨⟨fun τ => stableE_ex fun p v w w' O h hz hk => ⟨h.1, stableE_lvbox (fun k hk' => est2_fix hk' (fun h => h) (fun h => h)) v w w' O h.2 hz hk⟩, fun τ τ' h => by have e : τ' 11 = τ 11 := h 2 _ 11 rfl rfl rfl; show (fun v w O => ∃ p, τ 11 = _ ∧ LvBox p _ _ w O) = (fun v w O => ∃ p, τ' 11 = _ ∧ LvBox p _ _ w O); rw [e]⟩, ?_⟩
    intro a w O hk
    have f11 := hk.fact 2 _ 11 rfl rfl rfl rfl
    have g11 := hk.owns 2 rfl rfl
    have f72 := hk.fact 1 _ 72 rfl rfl rfl rfl
    have g72 := hk.owns 1 rfl rfl
    exact obE_lvStore (x := .tmp 11) (y := .tmp 72) rfl (wanted_none rfl) rfl (fun p A c e1 e2 d0 d1 d2 f0 f1 f2 => by unfold lvV at e2; unfold execOp; simp only []; rw [e1, e2]; go_simp) f11 (show LvV (fun k => k < w0.heap.size) (redP (la)) (a.eval (.tmp 72)) w (O 1) from f72) (fun k h => .inl ⟨2, by simp [mr_C], h⟩) (fun k h => .inl ⟨1, by simp [mr_C], h⟩) (hk.apart 2 1 rfl rfl rfl rfl (by decide)) (fun k h1 h2 => (g11 k h2).2 ((fun k hk' => est2_fix hk' (fun h => h) (fun h => h)) k h1))
set_option maxRecDepth 100000 in
set_option maxHeartbeats 8000000 in
theorem mr_region {Q : Exit → Act → World → Prop} {id : Nat} (w0 : World) (b : Nat) (Aa : Option Addr) (ca : Nat) (la : Lv) {s0 s1 s2 s4 s5 s6 s7 s8 s9 s10 s11 s12 s13 s14 s15 s16 s17 s18 s19 s20 s21 s22 s23 s24 s25 s26 s27 s28 s29 s30 s31 s32 s33 s34 s35 s36 s37 s38 s39 s40 s41 s42 s43 s44 s45 s46 s47 s48 s49 s50 s51 s52 s53 s54 s55 s56 s57 s58 s59 s60 s61 s62 s63 s64 s65 s66 s67 s68 s69 s70 s71 s72 s73 s74 s75 s76 s77 s78 s79 s80 s81 s82 s83 s84 s85 s86 s87 s88 s89 s90 s91 s92 s93 s94 s95 s96 s97 s98 s99 s100 s101 s102 s103 s104 s105 s106 s107 s108 s109 s110 s111 s112 s113 s114 s115 s116 s117 s118 s119 s120 s121 s122 s123 s124 s125 s126 s127 s128 s129 s130 s131 s132 : Value} (hxa : w0.heap[b]? = some (.cells #[.int .i64 la.kind, .int .i64 la.num, .slice Aa la.kids.length ca] 24 (0, 0))) (hina : LvS w0 (fun k => k < w0.heap.size) Aa ca la) (hsa : soundB la = true)
    (hend : ∀ (w' : World) (u11 : Value) (u72 : Value) (v3 : Value) (O3 : Nat → Prop), Chg (fun k => False ∨ False) w0 w' → (∃ p, u11 = .pointer (some ⟨p, 0, none⟩) ∧ LvBox p (fun k => k < w0.heap.size) (redP (la)) w' O3) → (∀ k, O3 k → k < w'.heap.size ∧ ¬ Fix w0 (est2 0 0 (fun _ => False) (fun _ => False)) k) → Q .normal { tmps := (s0 :: s1 :: s2 :: (.pointer (some ⟨b, 0, none⟩) : Value) :: s4 :: s5 :: s6 :: s7 :: s8 :: s9 :: s10 :: u11 :: s12 :: s13 :: s14 :: s15 :: s16 :: s17 :: s18 :: s19 :: s20 :: s21 :: s22 :: s23 :: s24 :: s25 :: s26 :: s27 :: s28 :: s29 :: s30 :: s31 :: s32 :: s33 :: s34 :: s35 :: s36 :: s37 :: s38 :: s39 :: s40 :: s41 :: s42 :: s43 :: s44 :: s45 :: s46 :: s47 :: s48 :: s49 :: s50 :: s51 :: s52 :: s53 :: s54 :: s55 :: s56 :: s57 :: s58 :: s59 :: s60 :: s61 :: s62 :: s63 :: s64 :: s65 :: s66 :: s67 :: s68 :: s69 :: s70 :: (lvV Aa ca la : Value) :: u72 :: s73 :: s74 :: s75 :: s76 :: s77 :: s78 :: s79 :: s80 :: s81 :: s82 :: s83 :: s84 :: s85 :: s86 :: s87 :: s88 :: s89 :: s90 :: s91 :: s92 :: s93 :: s94 :: s95 :: s96 :: s97 :: s98 :: s99 :: s100 :: s101 :: s102 :: s103 :: s104 :: s105 :: s106 :: s107 :: s108 :: s109 :: s110 :: s111 :: s112 :: s113 :: s114 :: s115 :: s116 :: s117 :: s118 :: s119 :: s120 :: s121 :: s122 :: s123 :: s124 :: s125 :: s126 :: s127 :: s128 :: s129 :: s130 :: s131 :: s132 :: ([] : List Value)).toArray, defers := [] } w') :
    (Code.region id mr_ops.toArray false).wp Try.prog Q { tmps := (s0 :: s1 :: s2 :: (.pointer (some ⟨b, 0, none⟩) : Value) :: s4 :: s5 :: s6 :: s7 :: s8 :: s9 :: s10 :: s11 :: s12 :: s13 :: s14 :: s15 :: s16 :: s17 :: s18 :: s19 :: s20 :: s21 :: s22 :: s23 :: s24 :: s25 :: s26 :: s27 :: s28 :: s29 :: s30 :: s31 :: s32 :: s33 :: s34 :: s35 :: s36 :: s37 :: s38 :: s39 :: s40 :: s41 :: s42 :: s43 :: s44 :: s45 :: s46 :: s47 :: s48 :: s49 :: s50 :: s51 :: s52 :: s53 :: s54 :: s55 :: s56 :: s57 :: s58 :: s59 :: s60 :: s61 :: s62 :: s63 :: s64 :: s65 :: s66 :: s67 :: s68 :: s69 :: s70 :: s71 :: s72 :: s73 :: s74 :: s75 :: s76 :: s77 :: s78 :: s79 :: s80 :: s81 :: s82 :: s83 :: s84 :: s85 :: s86 :: s87 :: s88 :: s89 :: s90 :: s91 :: s92 :: s93 :: s94 :: s95 :: s96 :: s97 :: s98 :: s99 :: s100 :: s101 :: s102 :: s103 :: s104 :: s105 :: s106 :: s107 :: s108 :: s109 :: s110 :: s111 :: s112 :: s113 :: s114 :: s115 :: s116 :: s117 :: s118 :: s119 :: s120 :: s121 :: s122 :: s123 :: s124 :: s125 :: s126 :: s127 :: s128 :: s129 :: s130 :: s131 :: s132 :: ([] : List Value)).toArray, defers := [] } w0 := by
  refine wp_region_est0 (est2 0 0 (fun _ => False) (fun _ => False)) mr_C (mr_F w0 b Aa ca la) (est2_dis (fun _ h _ => h)) (est2_range (fun _ h => h.elim) (fun _ h => h.elim)) (by rfl) (by kernel_rfl) (mr_obs w0 b Aa ca la hxa hina hsa _ _ rfl) ?_
  intro a w' O hd hs hb hf hf2 ha hsame
  have hx : ∀ (qi : Nat) (qv : Value), nwB mr_ops.toArray qi = true → (s0 :: s1 :: s2 :: (.pointer (some ⟨b, 0, none⟩) : Value) :: s4 :: s5 :: s6 :: s7 :: s8 :: s9 :: s10 :: s11 :: s12 :: s13 :: s14 :: s15 :: s16 :: s17 :: s18 :: s19 :: s20 :: s21 :: s22 :: s23 :: s24 :: s25 :: s26 :: s27 :: s28 :: s29 :: s30 :: s31 :: s32 :: s33 :: s34 :: s35 :: s36 :: s37 :: s38 :: s39 :: s40 :: s41 :: s42 :: s43 :: s44 :: s45 :: s46 :: s47 :: s48 :: s49 :: s50 :: s51 :: s52 :: s53 :: s54 :: s55 :: s56 :: s57 :: s58 :: s59 :: s60 :: s61 :: s62 :: s63 :: s64 :: s65 :: s66 :: s67 :: s68 :: s69 :: s70 :: s71 :: s72 :: s73 :: s74 :: s75 :: s76 :: s77 :: s78 :: s79 :: s80 :: s81 :: s82 :: s83 :: s84 :: s85 :: s86 :: s87 :: s88 :: s89 :: s90 :: s91 :: s92 :: s93 :: s94 :: s95 :: s96 :: s97 :: s98 :: s99 :: s100 :: s101 :: s102 :: s103 :: s104 :: s105 :: s106 :: s107 :: s108 :: s109 :: s110 :: s111 :: s112 :: s113 :: s114 :: s115 :: s116 :: s117 :: s118 :: s119 :: s120 :: s121 :: s122 :: s123 :: s124 :: s125 :: s126 :: s127 :: s128 :: s129 :: s130 :: s131 :: s132 :: ([] : List Value)).toArray.getD qi undef = qv → a.tmps.getD qi undef = qv := fun qi qv h e => (hsame qi (nwB.spec h)).trans e
  have x0 := hx 0 s0 (by kernel_rfl) rfl
  have x1 := hx 1 s1 (by kernel_rfl) rfl
  have x2 := hx 2 s2 (by kernel_rfl) rfl
  have x3 := hx 3 (.pointer (some ⟨b, 0, none⟩)) (by kernel_rfl) rfl
  have x4 := hx 4 s4 (by kernel_rfl) rfl
  have x5 := hx 5 s5 (by kernel_rfl) rfl
  have x6 := hx 6 s6 (by kernel_rfl) rfl
  have x7 := hx 7 s7 (by kernel_rfl) rfl
  have x8 := hx 8 s8 (by kernel_rfl) rfl
  have x9 := hx 9 s9 (by kernel_rfl) rfl
  have x10 := hx 10 s10 (by kernel_rfl) rfl
  have x12 := hx 12 s12 (by kernel_rfl) rfl
  have x13 := hx 13 s13 (by kernel_rfl) rfl
  have x14 := hx 14 s14 (by kernel_rfl) rfl
  have x15 := hx 15 s15 (by kernel_rfl) rfl
  have x16 := hx 16 s16 (by kernel_rfl) rfl
  have x17 := hx 17 s17 (by kernel_rfl) rfl
  have x18 := hx 18 s18 (by kernel_rfl) rfl
  have x19 := hx 19 s19 (by kernel_rfl) rfl
  have x20 := hx 20 s20 (by kernel_rfl) rfl
  have x21 := hx 21 s21 (by kernel_rfl) rfl
  have x22 := hx 22 s22 (by kernel_rfl) rfl
  have x23 := hx 23 s23 (by kernel_rfl) rfl
  have x24 := hx 24 s24 (by kernel_rfl) rfl
  have x25 := hx 25 s25 (by kernel_rfl) rfl
  have x26 := hx 26 s26 (by kernel_rfl) rfl
  have x27 := hx 27 s27 (by kernel_rfl) rfl
  have x28 := hx 28 s28 (by kernel_rfl) rfl
  have x29 := hx 29 s29 (by kernel_rfl) rfl
  have x30 := hx 30 s30 (by kernel_rfl) rfl
  have x31 := hx 31 s31 (by kernel_rfl) rfl
  have x32 := hx 32 s32 (by kernel_rfl) rfl
  have x33 := hx 33 s33 (by kernel_rfl) rfl
  have x34 := hx 34 s34 (by kernel_rfl) rfl
  have x35 := hx 35 s35 (by kernel_rfl) rfl
  have x36 := hx 36 s36 (by kernel_rfl) rfl
  have x37 := hx 37 s37 (by kernel_rfl) rfl
  have x38 := hx 38 s38 (by kernel_rfl) rfl
  have x39 := hx 39 s39 (by kernel_rfl) rfl
  have x40 := hx 40 s40 (by kernel_rfl) rfl
  have x41 := hx 41 s41 (by kernel_rfl) rfl
  have x42 := hx 42 s42 (by kernel_rfl) rfl
  have x43 := hx 43 s43 (by kernel_rfl) rfl
  have x44 := hx 44 s44 (by kernel_rfl) rfl
  have x45 := hx 45 s45 (by kernel_rfl) rfl
  have x46 := hx 46 s46 (by kernel_rfl) rfl
  have x47 := hx 47 s47 (by kernel_rfl) rfl
  have x48 := hx 48 s48 (by kernel_rfl) rfl
  have x49 := hx 49 s49 (by kernel_rfl) rfl
  have x50 := hx 50 s50 (by kernel_rfl) rfl
  have x51 := hx 51 s51 (by kernel_rfl) rfl
  have x52 := hx 52 s52 (by kernel_rfl) rfl
  have x53 := hx 53 s53 (by kernel_rfl) rfl
  have x54 := hx 54 s54 (by kernel_rfl) rfl
  have x55 := hx 55 s55 (by kernel_rfl) rfl
  have x56 := hx 56 s56 (by kernel_rfl) rfl
  have x57 := hx 57 s57 (by kernel_rfl) rfl
  have x58 := hx 58 s58 (by kernel_rfl) rfl
  have x59 := hx 59 s59 (by kernel_rfl) rfl
  have x60 := hx 60 s60 (by kernel_rfl) rfl
  have x61 := hx 61 s61 (by kernel_rfl) rfl
  have x62 := hx 62 s62 (by kernel_rfl) rfl
  have x63 := hx 63 s63 (by kernel_rfl) rfl
  have x64 := hx 64 s64 (by kernel_rfl) rfl
  have x65 := hx 65 s65 (by kernel_rfl) rfl
  have x66 := hx 66 s66 (by kernel_rfl) rfl
  have x67 := hx 67 s67 (by kernel_rfl) rfl
  have x68 := hx 68 s68 (by kernel_rfl) rfl
  have x69 := hx 69 s69 (by kernel_rfl) rfl
  have x70 := hx 70 s70 (by kernel_rfl) rfl
  have x71 : a.tmps.getD 71 undef = lvV Aa ca la := (hf 0 _ 71 rfl rfl (by decide)).1
  have x73 := hx 73 s73 (by kernel_rfl) rfl
  have x74 := hx 74 s74 (by kernel_rfl) rfl
  have x75 := hx 75 s75 (by kernel_rfl) rfl
  have x76 := hx 76 s76 (by kernel_rfl) rfl
  have x77 := hx 77 s77 (by kernel_rfl) rfl
  have x78 := hx 78 s78 (by kernel_rfl) rfl
  have x79 := hx 79 s79 (by kernel_rfl) rfl
  have x80 := hx 80 s80 (by kernel_rfl) rfl
  have x81 := hx 81 s81 (by kernel_rfl) rfl
  have x82 := hx 82 s82 (by kernel_rfl) rfl
  have x83 := hx 83 s83 (by kernel_rfl) rfl
  have x84 := hx 84 s84 (by kernel_rfl) rfl
  have x85 := hx 85 s85 (by kernel_rfl) rfl
  have x86 := hx 86 s86 (by kernel_rfl) rfl
  have x87 := hx 87 s87 (by kernel_rfl) rfl
  have x88 := hx 88 s88 (by kernel_rfl) rfl
  have x89 := hx 89 s89 (by kernel_rfl) rfl
  have x90 := hx 90 s90 (by kernel_rfl) rfl
  have x91 := hx 91 s91 (by kernel_rfl) rfl
  have x92 := hx 92 s92 (by kernel_rfl) rfl
  have x93 := hx 93 s93 (by kernel_rfl) rfl
  have x94 := hx 94 s94 (by kernel_rfl) rfl
  have x95 := hx 95 s95 (by kernel_rfl) rfl
  have x96 := hx 96 s96 (by kernel_rfl) rfl
  have x97 := hx 97 s97 (by kernel_rfl) rfl
  have x98 := hx 98 s98 (by kernel_rfl) rfl
  have x99 := hx 99 s99 (by kernel_rfl) rfl
  have x100 := hx 100 s100 (by kernel_rfl) rfl
  have x101 := hx 101 s101 (by kernel_rfl) rfl
  have x102 := hx 102 s102 (by kernel_rfl) rfl
  have x103 := hx 103 s103 (by kernel_rfl) rfl
  have x104 := hx 104 s104 (by kernel_rfl) rfl
  have x105 := hx 105 s105 (by kernel_rfl) rfl
  have x106 := hx 106 s106 (by kernel_rfl) rfl
  have x107 := hx 107 s107 (by kernel_rfl) rfl
  have x108 := hx 108 s108 (by kernel_rfl) rfl
  have x109 := hx 109 s109 (by kernel_rfl) rfl
  have x110 := hx 110 s110 (by kernel_rfl) rfl
  have x111 := hx 111 s111 (by kernel_rfl) rfl
  have x112 := hx 112 s112 (by kernel_rfl) rfl
  have x113 := hx 113 s113 (by kernel_rfl) rfl
  have x114 := hx 114 s114 (by kernel_rfl) rfl
  have x115 := hx 115 s115 (by kernel_rfl) rfl
  have x116 := hx 116 s116 (by kernel_rfl) rfl
  have x117 := hx 117 s117 (by kernel_rfl) rfl
  have x118 := hx 118 s118 (by kernel_rfl) rfl
  have x119 := hx 119 s119 (by kernel_rfl) rfl
  have x120 := hx 120 s120 (by kernel_rfl) rfl
  have x121 := hx 121 s121 (by kernel_rfl) rfl
  have x122 := hx 122 s122 (by kernel_rfl) rfl
  have x123 := hx 123 s123 (by kernel_rfl) rfl
  have x124 := hx 124 s124 (by kernel_rfl) rfl
  have x125 := hx 125 s125 (by kernel_rfl) rfl
  have x126 := hx 126 s126 (by kernel_rfl) rfl
  have x127 := hx 127 s127 (by kernel_rfl) rfl
  have x128 := hx 128 s128 (by kernel_rfl) rfl
  have x129 := hx 129 s129 (by kernel_rfl) rfl
  have x130 := hx 130 s130 (by kernel_rfl) rfl
  have x131 := hx 131 s131 (by kernel_rfl) rfl
  have x132 := hx 132 s132 (by kernel_rfl) rfl
  have hl : a.tmps = (s0 :: s1 :: s2 :: (.pointer (some ⟨b, 0, none⟩) : Value) :: s4 :: s5 :: s6 :: s7 :: s8 :: s9 :: s10 :: (a.tmps.getD 11 undef : Value) :: s12 :: s13 :: s14 :: s15 :: s16 :: s17 :: s18 :: s19 :: s20 :: s21 :: s22 :: s23 :: s24 :: s25 :: s26 :: s27 :: s28 :: s29 :: s30 :: s31 :: s32 :: s33 :: s34 :: s35 :: s36 :: s37 :: s38 :: s39 :: s40 :: s41 :: s42 :: s43 :: s44 :: s45 :: s46 :: s47 :: s48 :: s49 :: s50 :: s51 :: s52 :: s53 :: s54 :: s55 :: s56 :: s57 :: s58 :: s59 :: s60 :: s61 :: s62 :: s63 :: s64 :: s65 :: s66 :: s67 :: s68 :: s69 :: s70 :: (lvV Aa ca la : Value) :: (a.tmps.getD 72 undef : Value) :: s73 :: s74 :: s75 :: s76 :: s77 :: s78 :: s79 :: s80 :: s81 :: s82 :: s83 :: s84 :: s85 :: s86 :: s87 :: s88 :: s89 :: s90 :: s91 :: s92 :: s93 :: s94 :: s95 :: s96 :: s97 :: s98 :: s99 :: s100 :: s101 :: s102 :: s103 :: s104 :: s105 :: s106 :: s107 :: s108 :: s109 :: s110 :: s111 :: s112 :: s113 :: s114 :: s115 :: s116 :: s117 :: s118 :: s119 :: s120 :: s121 :: s122 :: s123 :: s124 :: s125 :: s126 :: s127 :: s128 :: s129 :: s130 :: s131 :: s132 :: ([] : List Value)).toArray := by
    have h := lit a.tmps 133 hs
    have e : ((List.range 133).map (fun i => a.tmps.getD i undef)).toArray = ((a.tmps.getD 0 undef : Value) :: (a.tmps.getD 1 undef : Value) :: (a.tmps.getD 2 undef : Value) :: (a.tmps.getD 3 undef : Value) :: (a.tmps.getD 4 undef : Value) :: (a.tmps.getD 5 undef : Value) :: (a.tmps.getD 6 undef : Value) :: (a.tmps.getD 7 undef : Value) :: (a.tmps.getD 8 undef : Value) :: (a.tmps.getD 9 undef : Value) :: (a.tmps.getD 10 undef : Value) :: (a.tmps.getD 11 undef : Value) :: (a.tmps.getD 12 undef : Value) :: (a.tmps.getD 13 undef : Value) :: (a.tmps.getD 14 undef : Value) :: (a.tmps.getD 15 undef : Value) :: (a.tmps.getD 16 undef : Value) :: (a.tmps.getD 17 undef : Value) :: (a.tmps.getD 18 undef : Value) :: (a.tmps.getD 19 undef : Value) :: (a.tmps.getD 20 undef : Value) :: (a.tmps.getD 21 undef : Value) :: (a.tmps.getD 22 undef : Value) :: (a.tmps.getD 23 undef : Value) :: (a.tmps.getD 24 undef : Value) :: (a.tmps.getD 25 undef : Value) :: (a.tmps.getD 26 undef : Value) :: (a.tmps.getD 27 undef : Value) :: (a.tmps.getD 28 undef : Value) :: (a.tmps.getD 29 undef : Value) :: (a.tmps.getD 30 undef : Value) :: (a.tmps.getD 31 undef : Value) :: (a.tmps.getD 32 undef : Value) :: (a.tmps.getD 33 undef : Value) :: (a.tmps.getD 34 undef : Value) :: (a.tmps.getD 35 undef : Value) :: (a.tmps.getD 36 undef : Value) :: (a.tmps.getD 37 undef : Value) :: (a.tmps.getD 38 undef : Value) :: (a.tmps.getD 39 undef : Value) :: (a.tmps.getD 40 undef : Value) :: (a.tmps.getD 41 undef : Value) :: (a.tmps.getD 42 undef : Value) :: (a.tmps.getD 43 undef : Value) :: (a.tmps.getD 44 undef : Value) :: (a.tmps.getD 45 undef : Value) :: (a.tmps.getD 46 undef : Value) :: (a.tmps.getD 47 undef : Value) :: (a.tmps.getD 48 undef : Value) :: (a.tmps.getD 49 undef : Value) :: (a.tmps.getD 50 undef : Value) :: (a.tmps.getD 51 undef : Value) :: (a.tmps.getD 52 undef : Value) :: (a.tmps.getD 53 undef : Value) :: (a.tmps.getD 54 undef : Value) :: (a.tmps.getD 55 undef : Value) :: (a.tmps.getD 56 undef : Value) :: (a.tmps.getD 57 undef : Value) :: (a.tmps.getD 58 undef : Value) :: (a.tmps.getD 59 undef : Value) :: (a.tmps.getD 60 undef : Value) :: (a.tmps.getD 61 undef : Value) :: (a.tmps.getD 62 undef : Value) :: (a.tmps.getD 63 undef : Value) :: (a.tmps.getD 64 undef : Value) :: (a.tmps.getD 65 undef : Value) :: (a.tmps.getD 66 undef : Value) :: (a.tmps.getD 67 undef : Value) :: (a.tmps.getD 68 undef : Value) :: (a.tmps.getD 69 undef : Value) :: (a.tmps.getD 70 undef : Value) :: (a.tmps.getD 71 undef : Value) :: (a.tmps.getD 72 undef : Value) :: (a.tmps.getD 73 undef : Value) :: (a.tmps.getD 74 undef : Value) :: (a.tmps.getD 75 undef : Value) :: (a.tmps.getD 76 undef : Value) :: (a.tmps.getD 77 undef : Value) :: (a.tmps.getD 78 undef : Value) :: (a.tmps.getD 79 undef : Value) :: (a.tmps.getD 80 undef : Value) :: (a.tmps.getD 81 undef : Value) :: (a.tmps.getD 82 undef : Value) :: (a.tmps.getD 83 undef : Value) :: (a.tmps.getD 84 undef : Value) :: (a.tmps.getD 85 undef : Value) :: (a.tmps.getD 86 undef : Value) :: (a.tmps.getD 87 undef : Value) :: (a.tmps.getD 88 undef : Value) :: (a.tmps.getD 89 undef : Value) :: (a.tmps.getD 90 undef : Value) :: (a.tmps.getD 91 undef : Value) :: (a.tmps.getD 92 undef : Value) :: (a.tmps.getD 93 undef : Value) :: (a.tmps.getD 94 undef : Value) :: (a.tmps.getD 95 undef : Value) :: (a.tmps.getD 96 undef : Value) :: (a.tmps.getD 97 undef : Value) :: (a.tmps.getD 98 undef : Value) :: (a.tmps.getD 99 undef : Value) :: (a.tmps.getD 100 undef : Value) :: (a.tmps.getD 101 undef : Value) :: (a.tmps.getD 102 undef : Value) :: (a.tmps.getD 103 undef : Value) :: (a.tmps.getD 104 undef : Value) :: (a.tmps.getD 105 undef : Value) :: (a.tmps.getD 106 undef : Value) :: (a.tmps.getD 107 undef : Value) :: (a.tmps.getD 108 undef : Value) :: (a.tmps.getD 109 undef : Value) :: (a.tmps.getD 110 undef : Value) :: (a.tmps.getD 111 undef : Value) :: (a.tmps.getD 112 undef : Value) :: (a.tmps.getD 113 undef : Value) :: (a.tmps.getD 114 undef : Value) :: (a.tmps.getD 115 undef : Value) :: (a.tmps.getD 116 undef : Value) :: (a.tmps.getD 117 undef : Value) :: (a.tmps.getD 118 undef : Value) :: (a.tmps.getD 119 undef : Value) :: (a.tmps.getD 120 undef : Value) :: (a.tmps.getD 121 undef : Value) :: (a.tmps.getD 122 undef : Value) :: (a.tmps.getD 123 undef : Value) :: (a.tmps.getD 124 undef : Value) :: (a.tmps.getD 125 undef : Value) :: (a.tmps.getD 126 undef : Value) :: (a.tmps.getD 127 undef : Value) :: (a.tmps.getD 128 undef : Value) :: (a.tmps.getD 129 undef : Value) :: (a.tmps.getD 130 undef : Value) :: (a.tmps.getD 131 undef : Value) :: (a.tmps.getD 132 undef : Value) :: ([] : List Value)).toArray := rfl
    rw [e, x0, x1, x2, x3, x4, x5, x6, x7, x8, x9, x10, x12, x13, x14, x15, x16, x17, x18, x19, x20, x21, x22, x23, x24, x25, x26, x27, x28, x29, x30, x31, x32, x33, x34, x35, x36, x37, x38, x39, x40, x41, x42, x43, x44, x45, x46, x47, x48, x49, x50, x51, x52, x53, x54, x55, x56, x57, x58, x59, x60, x61, x62, x63, x64, x65, x66, x67, x68, x69, x70, x71, x73, x74, x75, x76, x77, x78, x79, x80, x81, x82, x83, x84, x85, x86, x87, x88, x89, x90, x91, x92, x93, x94, x95, x96, x97, x98, x99, x100, x101, x102, x103, x104, x105, x106, x107, x108, x109, x110, x111, x112, x113, x114, x115, x116, x117, x118, x119, x120, x121, x122, x123, x124, x125, x126, x127, x128, x129, x130, x131, x132] at h
    exact h
  obtain ⟨tmps, defers⟩ := a
  obtain rfl : defers = [] := hd
  have hl' : tmps = _ := hl
  rw [hl']
  obtain ⟨⟨v3, hv3⟩, ho3⟩ := hf2 3 _ rfl rfl (by decide)
  have hb' := est2_chg hb
  exact hend w' _ _ v3 (O 3) ⟨hb'.os, hb'.tape, hb'.output, hb'.size, hb'.block⟩ hv3 ho3

end Go.Proofs.Ytjlhbaohippidaa
