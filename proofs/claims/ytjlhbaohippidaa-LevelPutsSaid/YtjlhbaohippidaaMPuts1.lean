/-
  Merged: VlR, ValR, PuR, MeansP, InstP, Inst, InR, InW, InU, InV, PutsP, Bx, LawPu, LvIn, LvsIn.
-/
import Derived.Deep.Slices
import Derived.ChangeArms
import Derived.Test.YtjlhbaohippidaaMGoesOn3
/-! VlR -/
namespace Go.Proofs.Ytjlhbaohippidaa
open Go.RowKit Go.Proofs.YtjlhbaohippidaaW.PrintWords Go.RegionInvYtjlhbaohippidaa Go.RegionEYtjlhbaohippidaa
set_option linter.unusedVariables false

def vl9_ops : List Oper := [
  { dst := some 27, op := Go.Op.fieldAddr 24 (Go.Operand.tmp 2) 2, type := 0, pos := "ref.go:233", after := #[], guard := none },
  { dst := some 28, op := Go.Op.load 22 (Go.Operand.tmp 27), type := 22, pos := "ref.go:233", after := #[{ on := 0, ground := Go.Ground.data }], guard := none },
  { dst := some 29, op := Go.Op.indexAddr 22 (Go.Operand.tmp 28) (Go.Operand.const (Go.Value.int Go.IntKind.i64 0)), type := 0, pos := "ref.go:233", after := #[{ on := 1, ground := Go.Ground.data }], guard := none },
  { dst := some 30, op := Go.Op.load 24 (Go.Operand.tmp 29), type := 24, pos := "ref.go:233", after := #[{ on := 2, ground := Go.Ground.data }], guard := none },
  { dst := some 31, op := Go.Op.move (Go.Operand.tmp 1), type := 29, pos := "ref.go:233", after := #[], guard := none },
  { dst := some 32, op := Go.Op.call { callee := Go.Callee.value (Go.Operand.func 35), args := #[Go.Operand.tmp 30, Go.Operand.tmp 31], argTypes := #[24, 29] }, type := 3, pos := "ref.go:233", after := #[{ on := 3, ground := Go.Ground.data }, { on := 4, ground := Go.Ground.data }], guard := none },
  { dst := some 33, op := Go.Op.fieldAddr 24 (Go.Operand.tmp 2) 1, type := 0, pos := "ref.go:233", after := #[], guard := none },
  { dst := some 34, op := Go.Op.load 3 (Go.Operand.tmp 33), type := 3, pos := "ref.go:233", after := #[{ on := 6, ground := Go.Ground.data }], guard := none },
  { dst := some 35, op := Go.Op.binOp Go.BinOp.add 3 (Go.Operand.tmp 32) (Go.Operand.tmp 34) 3, type := 3, pos := "ref.go:233", after := #[{ on := 5, ground := Go.Ground.data }, { on := 7, ground := Go.Ground.data }], guard := none },
  { dst := some 36, op := Go.Op.call { callee := Go.Callee.builtin Go.Builtin.min, args := #[Go.Operand.tmp 35, Go.Operand.const (Go.Value.int Go.IntKind.i64 1099511627776)], argTypes := #[3, 3] }, type := 3, pos := "ref.go:233", after := #[{ on := 8, ground := Go.Ground.data }], guard := none },
  { dst := some 4, op := Go.Op.assign (Go.Operand.tmp 36), type := 3, pos := "ref.go:233", after := #[{ on := 9, ground := Go.Ground.data }, { on := 5, ground := Go.Ground.chain }, { on := 0, ground := Go.Ground.phase }, { on := 1, ground := Go.Ground.phase }, { on := 2, ground := Go.Ground.phase }, { on := 3, ground := Go.Ground.phase }, { on := 4, ground := Go.Ground.phase }, { on := 5, ground := Go.Ground.phase }, { on := 6, ground := Go.Ground.phase }, { on := 7, ground := Go.Ground.phase }, { on := 8, ground := Go.Ground.phase }, { on := 9, ground := Go.Ground.phase }], guard := none }]
def vl9_F (w0 : World) (b : Nat) (k n : Int) (gb off c : Nat) (Av : Option Addr) (nv cv : Nat) (xk0 xn0 : Int) (A0 : Option Addr) (m0 c0 : Nat) (r0 : Int)  : Nat → (Nat → Value) → Value → World → (Nat → Prop) → Prop := fun rix => match rix with
  | 0 => fun _ v _ _ => v = .pointer (some ⟨b, 2, none⟩)
  | 1 => fun _ v _ _ => v = .slice (some ⟨gb, off, none⟩) 1 c
  | 2 => fun _ v _ _ => v = .pointer (some ⟨gb, off, none⟩)
  | 3 => fun _ v _ _ => v = .agg #[.int .i64 xk0, .int .i64 xn0, .slice A0 m0 c0]
  | 4 => fun _ v _ _ => v = .slice Av nv cv
  | 5 => fun _ v _ _ => v = .int .i64 r0
  | 6 => fun _ v _ _ => v = .pointer (some ⟨b, 1, none⟩)
  | 7 => fun _ v _ _ => v = .int .i64 n
  | 8 => fun _ v _ _ => v = .int .i64 (r0 + n)
  | 9 => fun _ v _ _ => v = .int .i64 (min (r0 + n) 1099511627776)
  | 10 => fun _ v _ _ => v = .int .i64 (min (r0 + n) 1099511627776)
  | _ => fun _ _ _ _ => True
def vl9_C : Nat → List Nat := fun rix => match rix with
  | _ => []
theorem vl9_nw1 : nwB vl9_ops.toArray 1 = true := by kernel_rfl
theorem vl9_nw2 : nwB vl9_ops.toArray 2 = true := by kernel_rfl
set_option maxRecDepth 100000 in
set_option maxHeartbeats 8000000 in
theorem vl9_obs (w0 : World) (b : Nat) (k n : Int) (gb off c : Nat) (Av : Option Addr) (nv cv : Nat) (xk0 xn0 : Int) (A0 : Option Addr) (m0 c0 : Nat) (r0 : Int)  (hx2 : w0.heap[b]? = some (.cells #[.int .i64 k, .int .i64 n, .slice (some ⟨gb, off, none⟩) 1 c] 24 (0, 0))) (hgb : gb < b) (hc0 : w0.cell? ⟨gb, off, none⟩ = some (.int .i64 xk0)) (hc1 : w0.cell? ⟨gb, off + 1, none⟩ = some (.int .i64 xn0)) (hc2 : w0.cell? ⟨gb, off + 2, none⟩ = some (.slice A0 m0 c0)) (hof0 : ∀ w, (∀ k, k < b → w.heap[k]? = w0.heap[k]?) → w0.heap.size ≤ w.heap.size → Calls Try.prog 35 #[.agg #[.int .i64 xk0, .int .i64 xn0, .slice A0 m0 c0], .slice Av nv cv] w fun e w' => e = .returned (.int .i64 r0) ∧ Below w.heap.size w w') (hwr : IntKind.i64.wrap (r0 + n) = r0 + n) (Q : Exit → Act → World → Prop) (a0 : Act) (hi1 : a0.tmps.getD 1 undef = .slice Av nv cv) (hi2 : a0.tmps.getD 2 undef = .pointer (some ⟨b, 0, none⟩)) :
    ObsE Try.prog vl9_ops.toArray Q (est2 0 0 (fun _ => False) (fun _ => False)) vl9_C (vl9_F w0 b k n gb off c Av nv cv xk0 xn0 A0 m0 c0 r0 ) a0 w0 vl9_ops.toArray.toList 0 := by
  have nw1 := vl9_nw1
  have nw2 := vl9_nw2
  refine ⟨?_, ?_, ?_, ?_, ?_, ?_, ?_, ?_, ?_, ?_, ?_, trivial⟩
  · refine ⟨⟨fun τ => stableE_det _, leans_not⟩, ?_⟩
    intro a w O hk
    have e2 : a.eval (.tmp 2) = .pointer (some ⟨b, 0, none⟩) := (hk.init 2 (initialB_of_nw nw2)).trans hi2
    exact obE_run (wanted_none rfl) (by unfold execOp; simp only []; rw [e2]; go_simp) rfl
  · refine ⟨⟨fun τ => stableE_det _, leans_not⟩, ?_⟩
    intro a w O hk
    have e27 : a.eval (.tmp 27) = .pointer (some ⟨b, 2, none⟩) := hk.fact 0 _ 27 rfl rfl rfl rfl
    have x2 := hk.world.still hx2 (fun ⟨_, h⟩ => h.elim And.right And.right)
    obtain ⟨p0, p1, p2, -, -, -⟩ := row3 x2
    have hfx : ∀ k, k < b → w.heap[k]? = w0.heap[k]? := fun k hkb => hk.fix k (est2_fix (by have := blk_lt hx2; omega) (fun h => h) (fun h => h))
    have hcc : ∀ j, w.cell? ⟨gb, j, none⟩ = w0.cell? ⟨gb, j, none⟩ := fun j => cell_same (hfx _ hgb)
    have q0 := (hcc _).trans hc0
    have q1 := (hcc _).trans hc1
    have q2 := (hcc _).trans hc2
    exact obE_run (wanted_none rfl) (by unfold execOp; simp only []; rw [e27]; go_simp) rfl
  · refine ⟨⟨fun τ => stableE_det _, leans_not⟩, ?_⟩
    intro a w O hk
    have e28 : a.eval (.tmp 28) = .slice (some ⟨gb, off, none⟩) 1 c := hk.fact 1 _ 28 rfl rfl rfl rfl
    have x2 := hk.world.still hx2 (fun ⟨_, h⟩ => h.elim And.right And.right)
    obtain ⟨p0, p1, p2, -, -, -⟩ := row3 x2
    have hfx : ∀ k, k < b → w.heap[k]? = w0.heap[k]? := fun k hkb => hk.fix k (est2_fix (by have := blk_lt hx2; omega) (fun h => h) (fun h => h))
    have hcc : ∀ j, w.cell? ⟨gb, j, none⟩ = w0.cell? ⟨gb, j, none⟩ := fun j => cell_same (hfx _ hgb)
    have q0 := (hcc _).trans hc0
    have q1 := (hcc _).trans hc1
    have q2 := (hcc _).trans hc2
    exact obE_run (wanted_none rfl) (by unfold execOp; simp only []; rw [e28]; go_simp) rfl
  · refine ⟨⟨fun τ => stableE_det _, leans_not⟩, ?_⟩
    intro a w O hk
    have e29 : a.eval (.tmp 29) = .pointer (some ⟨gb, off, none⟩) := hk.fact 2 _ 29 rfl rfl rfl rfl
    have x2 := hk.world.still hx2 (fun ⟨_, h⟩ => h.elim And.right And.right)
    obtain ⟨p0, p1, p2, -, -, -⟩ := row3 x2
    have hfx : ∀ k, k < b → w.heap[k]? = w0.heap[k]? := fun k hkb => hk.fix k (est2_fix (by have := blk_lt hx2; omega) (fun h => h) (fun h => h))
    have hcc : ∀ j, w.cell? ⟨gb, j, none⟩ = w0.cell? ⟨gb, j, none⟩ := fun j => cell_same (hfx _ hgb)
    have q0 := (hcc _).trans hc0
    have q1 := (hcc _).trans hc1
    have q2 := (hcc _).trans hc2
    exact obE_run (wanted_none rfl) (by unfold execOp; simp only []; rw [e29]; go_simp) rfl
  · refine ⟨⟨fun τ => stableE_det _, leans_not⟩, ?_⟩
    intro a w O hk
    have e1 : a.eval (.tmp 1) = .slice Av nv cv := (hk.init 1 (initialB_of_nw nw1)).trans hi1
    exact toE (ob_move rfl e1 (wanted_none rfl) rfl)
  · refine ⟨⟨fun τ => stableE_det _, leans_not⟩, ?_⟩
    intro a w O hk
    have e30 : a.eval (.tmp 30) = .agg #[.int .i64 xk0, .int .i64 xn0, .slice A0 m0 c0] := hk.fact 3 _ 30 rfl rfl rfl rfl
    have e31 : a.eval (.tmp 31) = .slice Av nv cv := hk.fact 4 _ 31 rfl rfl rfl rfl
    have x2 := hk.world.still hx2 (fun ⟨_, h⟩ => h.elim And.right And.right)
    obtain ⟨p0, p1, p2, -, -, -⟩ := row3 x2
    have hfx : ∀ k, k < b → w.heap[k]? = w0.heap[k]? := fun k hkb => hk.fix k (est2_fix (by have := blk_lt hx2; omega) (fun h => h) (fun h => h))
    have hcc : ∀ j, w.cell? ⟨gb, j, none⟩ = w0.cell? ⟨gb, j, none⟩ := fun j => cell_same (hfx _ hgb)
    have q0 := (hcc _).trans hc0
    have q1 := (hcc _).trans hc1
    have q2 := (hcc _).trans hc2
    exact obE_callV #[.agg #[.int .i64 xk0, .int .i64 xn0, .slice A0 m0 c0], .slice Av nv cv] rfl rfl rfl rfl (by simp only [List.map_cons, List.map_nil]; rw [e30, e31]) (wanted_none rfl) (hof0 w hfx hk.world.size)
  · refine ⟨⟨fun τ => stableE_det _, leans_not⟩, ?_⟩
    intro a w O hk
    have e2 : a.eval (.tmp 2) = .pointer (some ⟨b, 0, none⟩) := (hk.init 2 (initialB_of_nw nw2)).trans hi2
    exact obE_run (wanted_none rfl) (by unfold execOp; simp only []; rw [e2]; go_simp) rfl
  · refine ⟨⟨fun τ => stableE_det _, leans_not⟩, ?_⟩
    intro a w O hk
    have e33 : a.eval (.tmp 33) = .pointer (some ⟨b, 1, none⟩) := hk.fact 6 _ 33 rfl rfl rfl rfl
    have x2 := hk.world.still hx2 (fun ⟨_, h⟩ => h.elim And.right And.right)
    obtain ⟨p0, p1, p2, -, -, -⟩ := row3 x2
    have hfx : ∀ k, k < b → w.heap[k]? = w0.heap[k]? := fun k hkb => hk.fix k (est2_fix (by have := blk_lt hx2; omega) (fun h => h) (fun h => h))
    have hcc : ∀ j, w.cell? ⟨gb, j, none⟩ = w0.cell? ⟨gb, j, none⟩ := fun j => cell_same (hfx _ hgb)
    have q0 := (hcc _).trans hc0
    have q1 := (hcc _).trans hc1
    have q2 := (hcc _).trans hc2
    exact obE_run (wanted_none rfl) (by unfold execOp; simp only []; rw [e33]; go_simp) rfl
  · refine ⟨⟨fun τ => stableE_det _, leans_not⟩, ?_⟩
    intro a w O hk
    have e32 : a.eval (.tmp 32) = .int .i64 r0 := hk.fact 5 _ 32 rfl rfl rfl rfl
    have e34 : a.eval (.tmp 34) = .int .i64 n := hk.fact 7 _ 34 rfl rfl rfl rfl
    have x2 := hk.world.still hx2 (fun ⟨_, h⟩ => h.elim And.right And.right)
    obtain ⟨p0, p1, p2, -, -, -⟩ := row3 x2
    have hfx : ∀ k, k < b → w.heap[k]? = w0.heap[k]? := fun k hkb => hk.fix k (est2_fix (by have := blk_lt hx2; omega) (fun h => h) (fun h => h))
    have hcc : ∀ j, w.cell? ⟨gb, j, none⟩ = w0.cell? ⟨gb, j, none⟩ := fun j => cell_same (hfx _ hgb)
    have q0 := (hcc _).trans hc0
    have q1 := (hcc _).trans hc1
    have q2 := (hcc _).trans hc2
    exact obE_run (wanted_none rfl) (by unfold execOp; simp only []; rw [e32, e34]; go_simp) rfl
  · refine ⟨⟨fun τ => stableE_det _, leans_not⟩, ?_⟩
    intro a w O hk
    have e35 : a.eval (.tmp 35) = .int .i64 (r0 + n) := hk.fact 8 _ 35 rfl rfl rfl rfl
    exact obE_minInt rfl e35 rfl (wanted_none rfl) rfl
  · refine ⟨⟨fun τ => stableE_det _, leans_not⟩, ?_⟩
    intro a w O hk
    have e36 : a.eval (.tmp 36) = .int .i64 (min (r0 + n) 1099511627776) := hk.fact 9 _ 36 rfl rfl rfl rfl
    exact toE (ob_assign rfl e36 (wanted_none rfl) rfl)
set_option maxRecDepth 100000 in
set_option maxHeartbeats 8000000 in
theorem vl9_region {Q : Exit → Act → World → Prop} {id : Nat} (w0 : World) (b : Nat) (k n : Int) (gb off c : Nat) (Av : Option Addr) (nv cv : Nat) (xk0 xn0 : Int) (A0 : Option Addr) (m0 c0 : Nat) (r0 : Int)  {s0 s3 s4 s5 s6 s7 s8 s9 s10 s11 s12 s13 s14 s15 s16 s17 s18 s19 s20 s21 s22 s23 s24 s25 s26 s27 s28 s29 s30 s31 s32 s33 s34 s35 s36 s37 s38 s39 s40 s41 s42 s43 s44 s45 s46 s47 s48 s49 : Value} (hx2 : w0.heap[b]? = some (.cells #[.int .i64 k, .int .i64 n, .slice (some ⟨gb, off, none⟩) 1 c] 24 (0, 0))) (hgb : gb < b) (hc0 : w0.cell? ⟨gb, off, none⟩ = some (.int .i64 xk0)) (hc1 : w0.cell? ⟨gb, off + 1, none⟩ = some (.int .i64 xn0)) (hc2 : w0.cell? ⟨gb, off + 2, none⟩ = some (.slice A0 m0 c0)) (hof0 : ∀ w, (∀ k, k < b → w.heap[k]? = w0.heap[k]?) → w0.heap.size ≤ w.heap.size → Calls Try.prog 35 #[.agg #[.int .i64 xk0, .int .i64 xn0, .slice A0 m0 c0], .slice Av nv cv] w fun e w' => e = .returned (.int .i64 r0) ∧ Below w.heap.size w w') (hwr : IntKind.i64.wrap (r0 + n) = r0 + n)
    (hend : ∀ (w' : World), Chg (fun k => False ∨ False) w0 w' → Q .normal { tmps := (s0 :: (.slice Av nv cv : Value) :: (.pointer (some ⟨b, 0, none⟩) : Value) :: s3 :: (.int .i64 (min (r0 + n) 1099511627776) : Value) :: s5 :: s6 :: s7 :: s8 :: s9 :: s10 :: s11 :: s12 :: s13 :: s14 :: s15 :: s16 :: s17 :: s18 :: s19 :: s20 :: s21 :: s22 :: s23 :: s24 :: s25 :: s26 :: (.pointer (some ⟨b, 2, none⟩) : Value) :: (.slice (some ⟨gb, off, none⟩) 1 c : Value) :: (.pointer (some ⟨gb, off, none⟩) : Value) :: (.agg #[.int .i64 xk0, .int .i64 xn0, .slice A0 m0 c0] : Value) :: (.slice Av nv cv : Value) :: (.int .i64 r0 : Value) :: (.pointer (some ⟨b, 1, none⟩) : Value) :: (.int .i64 n : Value) :: (.int .i64 (r0 + n) : Value) :: (.int .i64 (min (r0 + n) 1099511627776) : Value) :: s37 :: s38 :: s39 :: s40 :: s41 :: s42 :: s43 :: s44 :: s45 :: s46 :: s47 :: s48 :: s49 :: ([] : List Value)).toArray, defers := [] } w') :
    (Code.region id vl9_ops.toArray true).wp Try.prog Q { tmps := (s0 :: (.slice Av nv cv : Value) :: (.pointer (some ⟨b, 0, none⟩) : Value) :: s3 :: s4 :: s5 :: s6 :: s7 :: s8 :: s9 :: s10 :: s11 :: s12 :: s13 :: s14 :: s15 :: s16 :: s17 :: s18 :: s19 :: s20 :: s21 :: s22 :: s23 :: s24 :: s25 :: s26 :: s27 :: s28 :: s29 :: s30 :: s31 :: s32 :: s33 :: s34 :: s35 :: s36 :: s37 :: s38 :: s39 :: s40 :: s41 :: s42 :: s43 :: s44 :: s45 :: s46 :: s47 :: s48 :: s49 :: ([] : List Value)).toArray, defers := [] } w0 := by
  refine wp_region_est (by kernel_rfl) (est2 0 0 (fun _ => False) (fun _ => False)) vl9_C (vl9_F w0 b k n gb off c Av nv cv xk0 xn0 A0 m0 c0 r0 ) (est2_dis (fun _ h _ => h)) (est2_range (fun _ h => h.elim) (fun _ h => h.elim)) (by rfl) (by kernel_rfl) (vl9_obs w0.drew b k n gb off c Av nv cv xk0 xn0 A0 m0 c0 r0  hx2 hgb hc0 hc1 hc2 hof0 hwr _ _ rfl rfl) ?_
  intro a w' O hd hs hb hf hf2 ha hsame
  have hx : ∀ (qi : Nat) (qv : Value), nwB vl9_ops.toArray qi = true → (s0 :: (.slice Av nv cv : Value) :: (.pointer (some ⟨b, 0, none⟩) : Value) :: s3 :: s4 :: s5 :: s6 :: s7 :: s8 :: s9 :: s10 :: s11 :: s12 :: s13 :: s14 :: s15 :: s16 :: s17 :: s18 :: s19 :: s20 :: s21 :: s22 :: s23 :: s24 :: s25 :: s26 :: s27 :: s28 :: s29 :: s30 :: s31 :: s32 :: s33 :: s34 :: s35 :: s36 :: s37 :: s38 :: s39 :: s40 :: s41 :: s42 :: s43 :: s44 :: s45 :: s46 :: s47 :: s48 :: s49 :: ([] : List Value)).toArray.getD qi undef = qv → a.tmps.getD qi undef = qv := fun qi qv h e => (hsame qi (nwB.spec h)).trans e
  have x0 := hx 0 s0 (by kernel_rfl) rfl
  have x1 := hx 1 (.slice Av nv cv) (by kernel_rfl) rfl
  have x2 := hx 2 (.pointer (some ⟨b, 0, none⟩)) (by kernel_rfl) rfl
  have x3 := hx 3 s3 (by kernel_rfl) rfl
  have x4 : a.tmps.getD 4 undef = .int .i64 (min (r0 + n) 1099511627776) := (hf 10 _ 4 rfl rfl (by decide)).1
  have x5 := hx 5 s5 (by kernel_rfl) rfl
  have x6 := hx 6 s6 (by kernel_rfl) rfl
  have x7 := hx 7 s7 (by kernel_rfl) rfl
  have x8 := hx 8 s8 (by kernel_rfl) rfl
  have x9 := hx 9 s9 (by kernel_rfl) rfl
  have x10 := hx 10 s10 (by kernel_rfl) rfl
  have x11 := hx 11 s11 (by kernel_rfl) rfl
  have x12 := hx 12 s12 (by kernel_rfl) rfl
  have x13 := hx 13 s13 (by kernel_rfl) rfl
  have x14 := hx 14 s14 (by kernel_rfl) rfl
  have x15 := hx 15 s15 (by kernel_rfl) rfl
  have x16 := hx 16 s16 (by kernel_rfl) rfl
  have x17 := hx 17 s17 (by kernel_rfl) rfl
  have x18 := hx 18 s18 (by kernel_rfl) rfl
  have x19 := hx 19 s19 (by kernel_rfl) rfl
  have x20 := hx 20 s20 (by kernel_rfl) rfl
  have x21 := hx 21 s21 (by kernel_rfl) rfl
  have x22 := hx 22 s22 (by kernel_rfl) rfl
  have x23 := hx 23 s23 (by kernel_rfl) rfl
  have x24 := hx 24 s24 (by kernel_rfl) rfl
  have x25 := hx 25 s25 (by kernel_rfl) rfl
  have x26 := hx 26 s26 (by kernel_rfl) rfl
  have x27 : a.tmps.getD 27 undef = .pointer (some ⟨b, 2, none⟩) := (hf 0 _ 27 rfl rfl (by decide)).1
  have x28 : a.tmps.getD 28 undef = .slice (some ⟨gb, off, none⟩) 1 c := (hf 1 _ 28 rfl rfl (by decide)).1
  have x29 : a.tmps.getD 29 undef = .pointer (some ⟨gb, off, none⟩) := (hf 2 _ 29 rfl rfl (by decide)).1
  have x30 : a.tmps.getD 30 undef = .agg #[.int .i64 xk0, .int .i64 xn0, .slice A0 m0 c0] := (hf 3 _ 30 rfl rfl (by decide)).1
  have x31 : a.tmps.getD 31 undef = .slice Av nv cv := (hf 4 _ 31 rfl rfl (by decide)).1
  have x32 : a.tmps.getD 32 undef = .int .i64 r0 := (hf 5 _ 32 rfl rfl (by decide)).1
  have x33 : a.tmps.getD 33 undef = .pointer (some ⟨b, 1, none⟩) := (hf 6 _ 33 rfl rfl (by decide)).1
  have x34 : a.tmps.getD 34 undef = .int .i64 n := (hf 7 _ 34 rfl rfl (by decide)).1
  have x35 : a.tmps.getD 35 undef = .int .i64 (r0 + n) := (hf 8 _ 35 rfl rfl (by decide)).1
  have x36 : a.tmps.getD 36 undef = .int .i64 (min (r0 + n) 1099511627776) := (hf 9 _ 36 rfl rfl (by decide)).1
  have x37 := hx 37 s37 (by kernel_rfl) rfl
  have x38 := hx 38 s38 (by kernel_rfl) rfl
  have x39 := hx 39 s39 (by kernel_rfl) rfl
  have x40 := hx 40 s40 (by kernel_rfl) rfl
  have x41 := hx 41 s41 (by kernel_rfl) rfl
  have x42 := hx 42 s42 (by kernel_rfl) rfl
  have x43 := hx 43 s43 (by kernel_rfl) rfl
  have x44 := hx 44 s44 (by kernel_rfl) rfl
  have x45 := hx 45 s45 (by kernel_rfl) rfl
  have x46 := hx 46 s46 (by kernel_rfl) rfl
  have x47 := hx 47 s47 (by kernel_rfl) rfl
  have x48 := hx 48 s48 (by kernel_rfl) rfl
  have x49 := hx 49 s49 (by kernel_rfl) rfl
  have hl : a.tmps = (s0 :: (.slice Av nv cv : Value) :: (.pointer (some ⟨b, 0, none⟩) : Value) :: s3 :: (.int .i64 (min (r0 + n) 1099511627776) : Value) :: s5 :: s6 :: s7 :: s8 :: s9 :: s10 :: s11 :: s12 :: s13 :: s14 :: s15 :: s16 :: s17 :: s18 :: s19 :: s20 :: s21 :: s22 :: s23 :: s24 :: s25 :: s26 :: (.pointer (some ⟨b, 2, none⟩) : Value) :: (.slice (some ⟨gb, off, none⟩) 1 c : Value) :: (.pointer (some ⟨gb, off, none⟩) : Value) :: (.agg #[.int .i64 xk0, .int .i64 xn0, .slice A0 m0 c0] : Value) :: (.slice Av nv cv : Value) :: (.int .i64 r0 : Value) :: (.pointer (some ⟨b, 1, none⟩) : Value) :: (.int .i64 n : Value) :: (.int .i64 (r0 + n) : Value) :: (.int .i64 (min (r0 + n) 1099511627776) : Value) :: s37 :: s38 :: s39 :: s40 :: s41 :: s42 :: s43 :: s44 :: s45 :: s46 :: s47 :: s48 :: s49 :: ([] : List Value)).toArray := by
    have h := lit a.tmps 50 hs
    have e : ((List.range 50).map (fun i => a.tmps.getD i undef)).toArray = ((a.tmps.getD 0 undef : Value) :: (a.tmps.getD 1 undef : Value) :: (a.tmps.getD 2 undef : Value) :: (a.tmps.getD 3 undef : Value) :: (a.tmps.getD 4 undef : Value) :: (a.tmps.getD 5 undef : Value) :: (a.tmps.getD 6 undef : Value) :: (a.tmps.getD 7 undef : Value) :: (a.tmps.getD 8 undef : Value) :: (a.tmps.getD 9 undef : Value) :: (a.tmps.getD 10 undef : Value) :: (a.tmps.getD 11 undef : Value) :: (a.tmps.getD 12 undef : Value) :: (a.tmps.getD 13 undef : Value) :: (a.tmps.getD 14 undef : Value) :: (a.tmps.getD 15 undef : Value) :: (a.tmps.getD 16 undef : Value) :: (a.tmps.getD 17 undef : Value) :: (a.tmps.getD 18 undef : Value) :: (a.tmps.getD 19 undef : Value) :: (a.tmps.getD 20 undef : Value) :: (a.tmps.getD 21 undef : Value) :: (a.tmps.getD 22 undef : Value) :: (a.tmps.getD 23 undef : Value) :: (a.tmps.getD 24 undef : Value) :: (a.tmps.getD 25 undef : Value) :: (a.tmps.getD 26 undef : Value) :: (a.tmps.getD 27 undef : Value) :: (a.tmps.getD 28 undef : Value) :: (a.tmps.getD 29 undef : Value) :: (a.tmps.getD 30 undef : Value) :: (a.tmps.getD 31 undef : Value) :: (a.tmps.getD 32 undef : Value) :: (a.tmps.getD 33 undef : Value) :: (a.tmps.getD 34 undef : Value) :: (a.tmps.getD 35 undef : Value) :: (a.tmps.getD 36 undef : Value) :: (a.tmps.getD 37 undef : Value) :: (a.tmps.getD 38 undef : Value) :: (a.tmps.getD 39 undef : Value) :: (a.tmps.getD 40 undef : Value) :: (a.tmps.getD 41 undef : Value) :: (a.tmps.getD 42 undef : Value) :: (a.tmps.getD 43 undef : Value) :: (a.tmps.getD 44 undef : Value) :: (a.tmps.getD 45 undef : Value) :: (a.tmps.getD 46 undef : Value) :: (a.tmps.getD 47 undef : Value) :: (a.tmps.getD 48 undef : Value) :: (a.tmps.getD 49 undef : Value) :: ([] : List Value)).toArray := rfl
    rw [e, x0, x1, x2, x3, x4, x5, x6, x7, x8, x9, x10, x11, x12, x13, x14, x15, x16, x17, x18, x19, x20, x21, x22, x23, x24, x25, x26, x27, x28, x29, x30, x31, x32, x33, x34, x35, x36, x37, x38, x39, x40, x41, x42, x43, x44, x45, x46, x47, x48, x49] at h
    exact h
  obtain ⟨tmps, defers⟩ := a
  obtain rfl : defers = [] := hd
  have hl' : tmps = _ := hl
  rw [hl']
  have hb' := est2_chg hb
  exact hend w' ⟨hb'.os, hb'.tape, hb'.output, hb'.size, hb'.block⟩

def vl10_ops : List Oper := [
  { dst := some 37, op := Go.Op.fieldAddr 24 (Go.Operand.tmp 2) 2, type := 0, pos := "ref.go:235", after := #[], guard := none },
  { dst := some 38, op := Go.Op.load 22 (Go.Operand.tmp 37), type := 22, pos := "ref.go:235", after := #[{ on := 0, ground := Go.Ground.data }], guard := none },
  { dst := some 39, op := Go.Op.indexAddr 22 (Go.Operand.tmp 38) (Go.Operand.const (Go.Value.int Go.IntKind.i64 0)), type := 0, pos := "ref.go:235", after := #[{ on := 1, ground := Go.Ground.data }], guard := none },
  { dst := some 40, op := Go.Op.load 24 (Go.Operand.tmp 39), type := 24, pos := "ref.go:235", after := #[{ on := 2, ground := Go.Ground.data }], guard := none },
  { dst := some 41, op := Go.Op.move (Go.Operand.tmp 1), type := 29, pos := "ref.go:235", after := #[], guard := none },
  { dst := some 42, op := Go.Op.call { callee := Go.Callee.value (Go.Operand.func 35), args := #[Go.Operand.tmp 40, Go.Operand.tmp 41], argTypes := #[24, 29] }, type := 3, pos := "ref.go:235", after := #[{ on := 3, ground := Go.Ground.data }, { on := 4, ground := Go.Ground.data }], guard := none },
  { dst := some 43, op := Go.Op.fieldAddr 24 (Go.Operand.tmp 2) 2, type := 0, pos := "ref.go:235", after := #[], guard := none },
  { dst := some 44, op := Go.Op.load 22 (Go.Operand.tmp 43), type := 22, pos := "ref.go:235", after := #[{ on := 6, ground := Go.Ground.data }], guard := none },
  { dst := some 45, op := Go.Op.indexAddr 22 (Go.Operand.tmp 44) (Go.Operand.const (Go.Value.int Go.IntKind.i64 1)), type := 0, pos := "ref.go:235", after := #[{ on := 7, ground := Go.Ground.data }], guard := none },
  { dst := some 46, op := Go.Op.load 24 (Go.Operand.tmp 45), type := 24, pos := "ref.go:235", after := #[{ on := 8, ground := Go.Ground.data }], guard := none },
  { dst := some 47, op := Go.Op.move (Go.Operand.tmp 1), type := 29, pos := "ref.go:235", after := #[], guard := none },
  { dst := some 48, op := Go.Op.call { callee := Go.Callee.value (Go.Operand.func 35), args := #[Go.Operand.tmp 46, Go.Operand.tmp 47], argTypes := #[24, 29] }, type := 3, pos := "ref.go:235", after := #[{ on := 9, ground := Go.Ground.data }, { on := 10, ground := Go.Ground.data }, { on := 5, ground := Go.Ground.chain }], guard := none },
  { dst := some 49, op := Go.Op.call { callee := Go.Callee.builtin Go.Builtin.max, args := #[Go.Operand.tmp 42, Go.Operand.tmp 48], argTypes := #[3, 3] }, type := 3, pos := "ref.go:235", after := #[{ on := 5, ground := Go.Ground.data }, { on := 11, ground := Go.Ground.data }], guard := none },
  { dst := some 4, op := Go.Op.assign (Go.Operand.tmp 49), type := 3, pos := "ref.go:235", after := #[{ on := 12, ground := Go.Ground.data }, { on := 11, ground := Go.Ground.chain }, { on := 0, ground := Go.Ground.phase }, { on := 1, ground := Go.Ground.phase }, { on := 2, ground := Go.Ground.phase }, { on := 3, ground := Go.Ground.phase }, { on := 4, ground := Go.Ground.phase }, { on := 5, ground := Go.Ground.phase }, { on := 6, ground := Go.Ground.phase }, { on := 7, ground := Go.Ground.phase }, { on := 8, ground := Go.Ground.phase }, { on := 9, ground := Go.Ground.phase }, { on := 10, ground := Go.Ground.phase }, { on := 11, ground := Go.Ground.phase }, { on := 12, ground := Go.Ground.phase }], guard := none }]
def vl10_F (w0 : World) (b : Nat) (k n : Int) (gb off c : Nat) (Av : Option Addr) (nv cv : Nat) (xk0 xn0 : Int) (A0 : Option Addr) (m0 c0 : Nat) (r0 : Int) (xk1 xn1 : Int) (A1 : Option Addr) (m1 c1 : Nat) (r1 : Int)  : Nat → (Nat → Value) → Value → World → (Nat → Prop) → Prop := fun rix => match rix with
  | 0 => fun _ v _ _ => v = .pointer (some ⟨b, 2, none⟩)
  | 1 => fun _ v _ _ => v = .slice (some ⟨gb, off, none⟩) 2 c
  | 2 => fun _ v _ _ => v = .pointer (some ⟨gb, off, none⟩)
  | 3 => fun _ v _ _ => v = .agg #[.int .i64 xk0, .int .i64 xn0, .slice A0 m0 c0]
  | 4 => fun _ v _ _ => v = .slice Av nv cv
  | 5 => fun _ v _ _ => v = .int .i64 r0
  | 6 => fun _ v _ _ => v = .pointer (some ⟨b, 2, none⟩)
  | 7 => fun _ v _ _ => v = .slice (some ⟨gb, off, none⟩) 2 c
  | 8 => fun _ v _ _ => v = .pointer (some ⟨gb, off + 3, none⟩)
  | 9 => fun _ v _ _ => v = .agg #[.int .i64 xk1, .int .i64 xn1, .slice A1 m1 c1]
  | 10 => fun _ v _ _ => v = .slice Av nv cv
  | 11 => fun _ v _ _ => v = .int .i64 r1
  | 12 => fun _ v _ _ => v = .int .i64 (max r0 r1)
  | 13 => fun _ v _ _ => v = .int .i64 (max r0 r1)
  | _ => fun _ _ _ _ => True
def vl10_C : Nat → List Nat := fun rix => match rix with
  | _ => []
theorem vl10_nw1 : nwB vl10_ops.toArray 1 = true := by kernel_rfl
theorem vl10_nw2 : nwB vl10_ops.toArray 2 = true := by kernel_rfl
set_option maxRecDepth 100000 in
set_option maxHeartbeats 8000000 in
theorem vl10_obs (w0 : World) (b : Nat) (k n : Int) (gb off c : Nat) (Av : Option Addr) (nv cv : Nat) (xk0 xn0 : Int) (A0 : Option Addr) (m0 c0 : Nat) (r0 : Int) (xk1 xn1 : Int) (A1 : Option Addr) (m1 c1 : Nat) (r1 : Int)  (hx2 : w0.heap[b]? = some (.cells #[.int .i64 k, .int .i64 n, .slice (some ⟨gb, off, none⟩) 2 c] 24 (0, 0))) (hgb : gb < b) (hc0 : w0.cell? ⟨gb, off, none⟩ = some (.int .i64 xk0)) (hc1 : w0.cell? ⟨gb, off + 1, none⟩ = some (.int .i64 xn0)) (hc2 : w0.cell? ⟨gb, off + 2, none⟩ = some (.slice A0 m0 c0)) (hc3 : w0.cell? ⟨gb, off + 3, none⟩ = some (.int .i64 xk1)) (hc4 : w0.cell? ⟨gb, off + 4, none⟩ = some (.int .i64 xn1)) (hc5 : w0.cell? ⟨gb, off + 5, none⟩ = some (.slice A1 m1 c1)) (hof0 : ∀ w, (∀ k, k < b → w.heap[k]? = w0.heap[k]?) → w0.heap.size ≤ w.heap.size → Calls Try.prog 35 #[.agg #[.int .i64 xk0, .int .i64 xn0, .slice A0 m0 c0], .slice Av nv cv] w fun e w' => e = .returned (.int .i64 r0) ∧ Below w.heap.size w w') (hof1 : ∀ w, (∀ k, k < b → w.heap[k]? = w0.heap[k]?) → w0.heap.size ≤ w.heap.size → Calls Try.prog 35 #[.agg #[.int .i64 xk1, .int .i64 xn1, .slice A1 m1 c1], .slice Av nv cv] w fun e w' => e = .returned (.int .i64 r1) ∧ Below w.heap.size w w')  (Q : Exit → Act → World → Prop) (a0 : Act) (hi1 : a0.tmps.getD 1 undef = .slice Av nv cv) (hi2 : a0.tmps.getD 2 undef = .pointer (some ⟨b, 0, none⟩)) :
    ObsE Try.prog vl10_ops.toArray Q (est2 0 0 (fun _ => False) (fun _ => False)) vl10_C (vl10_F w0 b k n gb off c Av nv cv xk0 xn0 A0 m0 c0 r0 xk1 xn1 A1 m1 c1 r1 ) a0 w0 vl10_ops.toArray.toList 0 := by
  have nw1 := vl10_nw1
  have nw2 := vl10_nw2
  refine ⟨?_, ?_, ?_, ?_, ?_, ?_, ?_, ?_, ?_, ?_, ?_, ?_, ?_, ?_, trivial⟩
  · refine ⟨⟨fun τ => stableE_det _, leans_not⟩, ?_⟩
    intro a w O hk
    have e2 : a.eval (.tmp 2) = .pointer (some ⟨b, 0, none⟩) := (hk.init 2 (initialB_of_nw nw2)).trans hi2
    exact obE_run (wanted_none rfl) (by unfold execOp; simp only []; rw [e2]; go_simp) rfl
  · refine ⟨⟨fun τ => stableE_det _, leans_not⟩, ?_⟩
    intro a w O hk
    have e37 : a.eval (.tmp 37) = .pointer (some ⟨b, 2, none⟩) := hk.fact 0 _ 37 rfl rfl rfl rfl
    have x2 := hk.world.still hx2 (fun ⟨_, h⟩ => h.elim And.right And.right)
    obtain ⟨p0, p1, p2, -, -, -⟩ := row3 x2
    have hfx : ∀ k, k < b → w.heap[k]? = w0.heap[k]? := fun k hkb => hk.fix k (est2_fix (by have := blk_lt hx2; omega) (fun h => h) (fun h => h))
    have hcc : ∀ j, w.cell? ⟨gb, j, none⟩ = w0.cell? ⟨gb, j, none⟩ := fun j => cell_same (hfx _ hgb)
    have q0 := (hcc _).trans hc0
    have q1 := (hcc _).trans hc1
    have q2 := (hcc _).trans hc2
    have q3 := (hcc _).trans hc3
    have q4 := (hcc _).trans hc4
    have q5 := (hcc _).trans hc5
    exact obE_run (wanted_none rfl) (by unfold execOp; simp only []; rw [e37]; go_simp) rfl
  · refine ⟨⟨fun τ => stableE_det _, leans_not⟩, ?_⟩
    intro a w O hk
    have e38 : a.eval (.tmp 38) = .slice (some ⟨gb, off, none⟩) 2 c := hk.fact 1 _ 38 rfl rfl rfl rfl
    have x2 := hk.world.still hx2 (fun ⟨_, h⟩ => h.elim And.right And.right)
    obtain ⟨p0, p1, p2, -, -, -⟩ := row3 x2
    have hfx : ∀ k, k < b → w.heap[k]? = w0.heap[k]? := fun k hkb => hk.fix k (est2_fix (by have := blk_lt hx2; omega) (fun h => h) (fun h => h))
    have hcc : ∀ j, w.cell? ⟨gb, j, none⟩ = w0.cell? ⟨gb, j, none⟩ := fun j => cell_same (hfx _ hgb)
    have q0 := (hcc _).trans hc0
    have q1 := (hcc _).trans hc1
    have q2 := (hcc _).trans hc2
    have q3 := (hcc _).trans hc3
    have q4 := (hcc _).trans hc4
    have q5 := (hcc _).trans hc5
    exact obE_run (wanted_none rfl) (by unfold execOp; simp only []; rw [e38]; go_simp) rfl
  · refine ⟨⟨fun τ => stableE_det _, leans_not⟩, ?_⟩
    intro a w O hk
    have e39 : a.eval (.tmp 39) = .pointer (some ⟨gb, off, none⟩) := hk.fact 2 _ 39 rfl rfl rfl rfl
    have x2 := hk.world.still hx2 (fun ⟨_, h⟩ => h.elim And.right And.right)
    obtain ⟨p0, p1, p2, -, -, -⟩ := row3 x2
    have hfx : ∀ k, k < b → w.heap[k]? = w0.heap[k]? := fun k hkb => hk.fix k (est2_fix (by have := blk_lt hx2; omega) (fun h => h) (fun h => h))
    have hcc : ∀ j, w.cell? ⟨gb, j, none⟩ = w0.cell? ⟨gb, j, none⟩ := fun j => cell_same (hfx _ hgb)
    have q0 := (hcc _).trans hc0
    have q1 := (hcc _).trans hc1
    have q2 := (hcc _).trans hc2
    have q3 := (hcc _).trans hc3
    have q4 := (hcc _).trans hc4
    have q5 := (hcc _).trans hc5
    exact obE_run (wanted_none rfl) (by unfold execOp; simp only []; rw [e39]; go_simp) rfl
  · refine ⟨⟨fun τ => stableE_det _, leans_not⟩, ?_⟩
    intro a w O hk
    have e1 : a.eval (.tmp 1) = .slice Av nv cv := (hk.init 1 (initialB_of_nw nw1)).trans hi1
    exact toE (ob_move rfl e1 (wanted_none rfl) rfl)
  · refine ⟨⟨fun τ => stableE_det _, leans_not⟩, ?_⟩
    intro a w O hk
    have e40 : a.eval (.tmp 40) = .agg #[.int .i64 xk0, .int .i64 xn0, .slice A0 m0 c0] := hk.fact 3 _ 40 rfl rfl rfl rfl
    have e41 : a.eval (.tmp 41) = .slice Av nv cv := hk.fact 4 _ 41 rfl rfl rfl rfl
    have x2 := hk.world.still hx2 (fun ⟨_, h⟩ => h.elim And.right And.right)
    obtain ⟨p0, p1, p2, -, -, -⟩ := row3 x2
    have hfx : ∀ k, k < b → w.heap[k]? = w0.heap[k]? := fun k hkb => hk.fix k (est2_fix (by have := blk_lt hx2; omega) (fun h => h) (fun h => h))
    have hcc : ∀ j, w.cell? ⟨gb, j, none⟩ = w0.cell? ⟨gb, j, none⟩ := fun j => cell_same (hfx _ hgb)
    have q0 := (hcc _).trans hc0
    have q1 := (hcc _).trans hc1
    have q2 := (hcc _).trans hc2
    have q3 := (hcc _).trans hc3
    have q4 := (hcc _).trans hc4
    have q5 := (hcc _).trans hc5
    exact obE_callV #[.agg #[.int .i64 xk0, .int .i64 xn0, .slice A0 m0 c0], .slice Av nv cv] rfl rfl rfl rfl (by simp only [List.map_cons, List.map_nil]; rw [e40, e41]) (wanted_none rfl) (hof0 w hfx hk.world.size)
  · refine ⟨⟨fun τ => stableE_det _, leans_not⟩, ?_⟩
    intro a w O hk
    have e2 : a.eval (.tmp 2) = .pointer (some ⟨b, 0, none⟩) := (hk.init 2 (initialB_of_nw nw2)).trans hi2
    exact obE_run (wanted_none rfl) (by unfold execOp; simp only []; rw [e2]; go_simp) rfl
  · refine ⟨⟨fun τ => stableE_det _, leans_not⟩, ?_⟩
    intro a w O hk
    have e43 : a.eval (.tmp 43) = .pointer (some ⟨b, 2, none⟩) := hk.fact 6 _ 43 rfl rfl rfl rfl
    have x2 := hk.world.still hx2 (fun ⟨_, h⟩ => h.elim And.right And.right)
    obtain ⟨p0, p1, p2, -, -, -⟩ := row3 x2
    have hfx : ∀ k, k < b → w.heap[k]? = w0.heap[k]? := fun k hkb => hk.fix k (est2_fix (by have := blk_lt hx2; omega) (fun h => h) (fun h => h))
    have hcc : ∀ j, w.cell? ⟨gb, j, none⟩ = w0.cell? ⟨gb, j, none⟩ := fun j => cell_same (hfx _ hgb)
    have q0 := (hcc _).trans hc0
    have q1 := (hcc _).trans hc1
    have q2 := (hcc _).trans hc2
    have q3 := (hcc _).trans hc3
    have q4 := (hcc _).trans hc4
    have q5 := (hcc _).trans hc5
    exact obE_run (wanted_none rfl) (by unfold execOp; simp only []; rw [e43]; go_simp) rfl
  · refine ⟨⟨fun τ => stableE_det _, leans_not⟩, ?_⟩
    intro a w O hk
    have e44 : a.eval (.tmp 44) = .slice (some ⟨gb, off, none⟩) 2 c := hk.fact 7 _ 44 rfl rfl rfl rfl
    have x2 := hk.world.still hx2 (fun ⟨_, h⟩ => h.elim And.right And.right)
    obtain ⟨p0, p1, p2, -, -, -⟩ := row3 x2
    have hfx : ∀ k, k < b → w.heap[k]? = w0.heap[k]? := fun k hkb => hk.fix k (est2_fix (by have := blk_lt hx2; omega) (fun h => h) (fun h => h))
    have hcc : ∀ j, w.cell? ⟨gb, j, none⟩ = w0.cell? ⟨gb, j, none⟩ := fun j => cell_same (hfx _ hgb)
    have q0 := (hcc _).trans hc0
    have q1 := (hcc _).trans hc1
    have q2 := (hcc _).trans hc2
    have q3 := (hcc _).trans hc3
    have q4 := (hcc _).trans hc4
    have q5 := (hcc _).trans hc5
    exact obE_run (wanted_none rfl) (by unfold execOp; simp only []; rw [e44]; go_simp) rfl
  · refine ⟨⟨fun τ => stableE_det _, leans_not⟩, ?_⟩
    intro a w O hk
    have e45 : a.eval (.tmp 45) = .pointer (some ⟨gb, off + 3, none⟩) := hk.fact 8 _ 45 rfl rfl rfl rfl
    have x2 := hk.world.still hx2 (fun ⟨_, h⟩ => h.elim And.right And.right)
    obtain ⟨p0, p1, p2, -, -, -⟩ := row3 x2
    have hfx : ∀ k, k < b → w.heap[k]? = w0.heap[k]? := fun k hkb => hk.fix k (est2_fix (by have := blk_lt hx2; omega) (fun h => h) (fun h => h))
    have hcc : ∀ j, w.cell? ⟨gb, j, none⟩ = w0.cell? ⟨gb, j, none⟩ := fun j => cell_same (hfx _ hgb)
    have q0 := (hcc _).trans hc0
    have q1 := (hcc _).trans hc1
    have q2 := (hcc _).trans hc2
    have q3 := (hcc _).trans hc3
    have q4 := (hcc _).trans hc4
    have q5 := (hcc _).trans hc5
    exact obE_run (wanted_none rfl) (by unfold execOp; simp only []; rw [e45]; go_simp) rfl
  · refine ⟨⟨fun τ => stableE_det _, leans_not⟩, ?_⟩
    intro a w O hk
    have e1 : a.eval (.tmp 1) = .slice Av nv cv := (hk.init 1 (initialB_of_nw nw1)).trans hi1
    exact toE (ob_move rfl e1 (wanted_none rfl) rfl)
  · refine ⟨⟨fun τ => stableE_det _, leans_not⟩, ?_⟩
    intro a w O hk
    have e46 : a.eval (.tmp 46) = .agg #[.int .i64 xk1, .int .i64 xn1, .slice A1 m1 c1] := hk.fact 9 _ 46 rfl rfl rfl rfl
    have e47 : a.eval (.tmp 47) = .slice Av nv cv := hk.fact 10 _ 47 rfl rfl rfl rfl
    have x2 := hk.world.still hx2 (fun ⟨_, h⟩ => h.elim And.right And.right)
    obtain ⟨p0, p1, p2, -, -, -⟩ := row3 x2
    have hfx : ∀ k, k < b → w.heap[k]? = w0.heap[k]? := fun k hkb => hk.fix k (est2_fix (by have := blk_lt hx2; omega) (fun h => h) (fun h => h))
    have hcc : ∀ j, w.cell? ⟨gb, j, none⟩ = w0.cell? ⟨gb, j, none⟩ := fun j => cell_same (hfx _ hgb)
    have q0 := (hcc _).trans hc0
    have q1 := (hcc _).trans hc1
    have q2 := (hcc _).trans hc2
    have q3 := (hcc _).trans hc3
    have q4 := (hcc _).trans hc4
    have q5 := (hcc _).trans hc5
    exact obE_callV #[.agg #[.int .i64 xk1, .int .i64 xn1, .slice A1 m1 c1], .slice Av nv cv] rfl rfl rfl rfl (by simp only [List.map_cons, List.map_nil]; rw [e46, e47]) (wanted_none rfl) (hof1 w hfx hk.world.size)
  · refine ⟨⟨fun τ => stableE_det _, leans_not⟩, ?_⟩
    intro a w O hk
    have e42 : a.eval (.tmp 42) = .int .i64 r0 := hk.fact 5 _ 42 rfl rfl rfl rfl
    have e48 : a.eval (.tmp 48) = .int .i64 r1 := hk.fact 11 _ 48 rfl rfl rfl rfl
    exact obE_maxInt rfl e42 e48 (wanted_none rfl) rfl
  · refine ⟨⟨fun τ => stableE_det _, leans_not⟩, ?_⟩
    intro a w O hk
    have e49 : a.eval (.tmp 49) = .int .i64 (max r0 r1) := hk.fact 12 _ 49 rfl rfl rfl rfl
    exact toE (ob_assign rfl e49 (wanted_none rfl) rfl)
set_option maxRecDepth 100000 in
set_option maxHeartbeats 8000000 in
theorem vl10_region {Q : Exit → Act → World → Prop} {id : Nat} (w0 : World) (b : Nat) (k n : Int) (gb off c : Nat) (Av : Option Addr) (nv cv : Nat) (xk0 xn0 : Int) (A0 : Option Addr) (m0 c0 : Nat) (r0 : Int) (xk1 xn1 : Int) (A1 : Option Addr) (m1 c1 : Nat) (r1 : Int)  {s0 s3 s4 s5 s6 s7 s8 s9 s10 s11 s12 s13 s14 s15 s16 s17 s18 s19 s20 s21 s22 s23 s24 s25 s26 s27 s28 s29 s30 s31 s32 s33 s34 s35 s36 s37 s38 s39 s40 s41 s42 s43 s44 s45 s46 s47 s48 s49 : Value} (hx2 : w0.heap[b]? = some (.cells #[.int .i64 k, .int .i64 n, .slice (some ⟨gb, off, none⟩) 2 c] 24 (0, 0))) (hgb : gb < b) (hc0 : w0.cell? ⟨gb, off, none⟩ = some (.int .i64 xk0)) (hc1 : w0.cell? ⟨gb, off + 1, none⟩ = some (.int .i64 xn0)) (hc2 : w0.cell? ⟨gb, off + 2, none⟩ = some (.slice A0 m0 c0)) (hc3 : w0.cell? ⟨gb, off + 3, none⟩ = some (.int .i64 xk1)) (hc4 : w0.cell? ⟨gb, off + 4, none⟩ = some (.int .i64 xn1)) (hc5 : w0.cell? ⟨gb, off + 5, none⟩ = some (.slice A1 m1 c1)) (hof0 : ∀ w, (∀ k, k < b → w.heap[k]? = w0.heap[k]?) → w0.heap.size ≤ w.heap.size → Calls Try.prog 35 #[.agg #[.int .i64 xk0, .int .i64 xn0, .slice A0 m0 c0], .slice Av nv cv] w fun e w' => e = .returned (.int .i64 r0) ∧ Below w.heap.size w w') (hof1 : ∀ w, (∀ k, k < b → w.heap[k]? = w0.heap[k]?) → w0.heap.size ≤ w.heap.size → Calls Try.prog 35 #[.agg #[.int .i64 xk1, .int .i64 xn1, .slice A1 m1 c1], .slice Av nv cv] w fun e w' => e = .returned (.int .i64 r1) ∧ Below w.heap.size w w') 
    (hend : ∀ (w' : World), Chg (fun k => False ∨ False) w0 w' → Q .normal { tmps := (s0 :: (.slice Av nv cv : Value) :: (.pointer (some ⟨b, 0, none⟩) : Value) :: s3 :: (.int .i64 (max r0 r1) : Value) :: s5 :: s6 :: s7 :: s8 :: s9 :: s10 :: s11 :: s12 :: s13 :: s14 :: s15 :: s16 :: s17 :: s18 :: s19 :: s20 :: s21 :: s22 :: s23 :: s24 :: s25 :: s26 :: s27 :: s28 :: s29 :: s30 :: s31 :: s32 :: s33 :: s34 :: s35 :: s36 :: (.pointer (some ⟨b, 2, none⟩) : Value) :: (.slice (some ⟨gb, off, none⟩) 2 c : Value) :: (.pointer (some ⟨gb, off, none⟩) : Value) :: (.agg #[.int .i64 xk0, .int .i64 xn0, .slice A0 m0 c0] : Value) :: (.slice Av nv cv : Value) :: (.int .i64 r0 : Value) :: (.pointer (some ⟨b, 2, none⟩) : Value) :: (.slice (some ⟨gb, off, none⟩) 2 c : Value) :: (.pointer (some ⟨gb, off + 3, none⟩) : Value) :: (.agg #[.int .i64 xk1, .int .i64 xn1, .slice A1 m1 c1] : Value) :: (.slice Av nv cv : Value) :: (.int .i64 r1 : Value) :: (.int .i64 (max r0 r1) : Value) :: ([] : List Value)).toArray, defers := [] } w') :
    (Code.region id vl10_ops.toArray true).wp Try.prog Q { tmps := (s0 :: (.slice Av nv cv : Value) :: (.pointer (some ⟨b, 0, none⟩) : Value) :: s3 :: s4 :: s5 :: s6 :: s7 :: s8 :: s9 :: s10 :: s11 :: s12 :: s13 :: s14 :: s15 :: s16 :: s17 :: s18 :: s19 :: s20 :: s21 :: s22 :: s23 :: s24 :: s25 :: s26 :: s27 :: s28 :: s29 :: s30 :: s31 :: s32 :: s33 :: s34 :: s35 :: s36 :: s37 :: s38 :: s39 :: s40 :: s41 :: s42 :: s43 :: s44 :: s45 :: s46 :: s47 :: s48 :: s49 :: ([] : List Value)).toArray, defers := [] } w0 := by
  refine wp_region_est (by kernel_rfl) (est2 0 0 (fun _ => False) (fun _ => False)) vl10_C (vl10_F w0 b k n gb off c Av nv cv xk0 xn0 A0 m0 c0 r0 xk1 xn1 A1 m1 c1 r1 ) (est2_dis (fun _ h _ => h)) (est2_range (fun _ h => h.elim) (fun _ h => h.elim)) (by rfl) (by kernel_rfl) (vl10_obs w0.drew b k n gb off c Av nv cv xk0 xn0 A0 m0 c0 r0 xk1 xn1 A1 m1 c1 r1  hx2 hgb hc0 hc1 hc2 hc3 hc4 hc5 hof0 hof1 _ _ rfl rfl) ?_
  intro a w' O hd hs hb hf hf2 ha hsame
  have hx : ∀ (qi : Nat) (qv : Value), nwB vl10_ops.toArray qi = true → (s0 :: (.slice Av nv cv : Value) :: (.pointer (some ⟨b, 0, none⟩) : Value) :: s3 :: s4 :: s5 :: s6 :: s7 :: s8 :: s9 :: s10 :: s11 :: s12 :: s13 :: s14 :: s15 :: s16 :: s17 :: s18 :: s19 :: s20 :: s21 :: s22 :: s23 :: s24 :: s25 :: s26 :: s27 :: s28 :: s29 :: s30 :: s31 :: s32 :: s33 :: s34 :: s35 :: s36 :: s37 :: s38 :: s39 :: s40 :: s41 :: s42 :: s43 :: s44 :: s45 :: s46 :: s47 :: s48 :: s49 :: ([] : List Value)).toArray.getD qi undef = qv → a.tmps.getD qi undef = qv := fun qi qv h e => (hsame qi (nwB.spec h)).trans e
  have x0 := hx 0 s0 (by kernel_rfl) rfl
  have x1 := hx 1 (.slice Av nv cv) (by kernel_rfl) rfl
  have x2 := hx 2 (.pointer (some ⟨b, 0, none⟩)) (by kernel_rfl) rfl
  have x3 := hx 3 s3 (by kernel_rfl) rfl
  have x4 : a.tmps.getD 4 undef = .int .i64 (max r0 r1) := (hf 13 _ 4 rfl rfl (by decide)).1
  have x5 := hx 5 s5 (by kernel_rfl) rfl
  have x6 := hx 6 s6 (by kernel_rfl) rfl
  have x7 := hx 7 s7 (by kernel_rfl) rfl
  have x8 := hx 8 s8 (by kernel_rfl) rfl
  have x9 := hx 9 s9 (by kernel_rfl) rfl
  have x10 := hx 10 s10 (by kernel_rfl) rfl
  have x11 := hx 11 s11 (by kernel_rfl) rfl
  have x12 := hx 12 s12 (by kernel_rfl) rfl
  have x13 := hx 13 s13 (by kernel_rfl) rfl
  have x14 := hx 14 s14 (by kernel_rfl) rfl
  have x15 := hx 15 s15 (by kernel_rfl) rfl
  have x16 := hx 16 s16 (by kernel_rfl) rfl
  have x17 := hx 17 s17 (by kernel_rfl) rfl
  have x18 := hx 18 s18 (by kernel_rfl) rfl
  have x19 := hx 19 s19 (by kernel_rfl) rfl
  have x20 := hx 20 s20 (by kernel_rfl) rfl
  have x21 := hx 21 s21 (by kernel_rfl) rfl
  have x22 := hx 22 s22 (by kernel_rfl) rfl
  have x23 := hx 23 s23 (by kernel_rfl) rfl
  have x24 := hx 24 s24 (by kernel_rfl) rfl
  have x25 := hx 25 s25 (by kernel_rfl) rfl
  have x26 := hx 26 s26 (by kernel_rfl) rfl
  have x27 := hx 27 s27 (by kernel_rfl) rfl
  have x28 := hx 28 s28 (by kernel_rfl) rfl
  have x29 := hx 29 s29 (by kernel_rfl) rfl
  have x30 := hx 30 s30 (by kernel_rfl) rfl
  have x31 := hx 31 s31 (by kernel_rfl) rfl
  have x32 := hx 32 s32 (by kernel_rfl) rfl
  have x33 := hx 33 s33 (by kernel_rfl) rfl
  have x34 := hx 34 s34 (by kernel_rfl) rfl
  have x35 := hx 35 s35 (by kernel_rfl) rfl
  have x36 := hx 36 s36 (by kernel_rfl) rfl
  have x37 : a.tmps.getD 37 undef = .pointer (some ⟨b, 2, none⟩) := (hf 0 _ 37 rfl rfl (by decide)).1
  have x38 : a.tmps.getD 38 undef = .slice (some ⟨gb, off, none⟩) 2 c := (hf 1 _ 38 rfl rfl (by decide)).1
  have x39 : a.tmps.getD 39 undef = .pointer (some ⟨gb, off, none⟩) := (hf 2 _ 39 rfl rfl (by decide)).1
  have x40 : a.tmps.getD 40 undef = .agg #[.int .i64 xk0, .int .i64 xn0, .slice A0 m0 c0] := (hf 3 _ 40 rfl rfl (by decide)).1
  have x41 : a.tmps.getD 41 undef = .slice Av nv cv := (hf 4 _ 41 rfl rfl (by decide)).1
  have x42 : a.tmps.getD 42 undef = .int .i64 r0 := (hf 5 _ 42 rfl rfl (by decide)).1
  have x43 : a.tmps.getD 43 undef = .pointer (some ⟨b, 2, none⟩) := (hf 6 _ 43 rfl rfl (by decide)).1
  have x44 : a.tmps.getD 44 undef = .slice (some ⟨gb, off, none⟩) 2 c := (hf 7 _ 44 rfl rfl (by decide)).1
  have x45 : a.tmps.getD 45 undef = .pointer (some ⟨gb, off + 3, none⟩) := (hf 8 _ 45 rfl rfl (by decide)).1
  have x46 : a.tmps.getD 46 undef = .agg #[.int .i64 xk1, .int .i64 xn1, .slice A1 m1 c1] := (hf 9 _ 46 rfl rfl (by decide)).1
  have x47 : a.tmps.getD 47 undef = .slice Av nv cv := (hf 10 _ 47 rfl rfl (by decide)).1
  have x48 : a.tmps.getD 48 undef = .int .i64 r1 := (hf 11 _ 48 rfl rfl (by decide)).1
  have x49 : a.tmps.getD 49 undef = .int .i64 (max r0 r1) := (hf 12 _ 49 rfl rfl (by decide)).1
  have hl : a.tmps = (s0 :: (.slice Av nv cv : Value) :: (.pointer (some ⟨b, 0, none⟩) : Value) :: s3 :: (.int .i64 (max r0 r1) : Value) :: s5 :: s6 :: s7 :: s8 :: s9 :: s10 :: s11 :: s12 :: s13 :: s14 :: s15 :: s16 :: s17 :: s18 :: s19 :: s20 :: s21 :: s22 :: s23 :: s24 :: s25 :: s26 :: s27 :: s28 :: s29 :: s30 :: s31 :: s32 :: s33 :: s34 :: s35 :: s36 :: (.pointer (some ⟨b, 2, none⟩) : Value) :: (.slice (some ⟨gb, off, none⟩) 2 c : Value) :: (.pointer (some ⟨gb, off, none⟩) : Value) :: (.agg #[.int .i64 xk0, .int .i64 xn0, .slice A0 m0 c0] : Value) :: (.slice Av nv cv : Value) :: (.int .i64 r0 : Value) :: (.pointer (some ⟨b, 2, none⟩) : Value) :: (.slice (some ⟨gb, off, none⟩) 2 c : Value) :: (.pointer (some ⟨gb, off + 3, none⟩) : Value) :: (.agg #[.int .i64 xk1, .int .i64 xn1, .slice A1 m1 c1] : Value) :: (.slice Av nv cv : Value) :: (.int .i64 r1 : Value) :: (.int .i64 (max r0 r1) : Value) :: ([] : List Value)).toArray := by
    have h := lit a.tmps 50 hs
    have e : ((List.range 50).map (fun i => a.tmps.getD i undef)).toArray = ((a.tmps.getD 0 undef : Value) :: (a.tmps.getD 1 undef : Value) :: (a.tmps.getD 2 undef : Value) :: (a.tmps.getD 3 undef : Value) :: (a.tmps.getD 4 undef : Value) :: (a.tmps.getD 5 undef : Value) :: (a.tmps.getD 6 undef : Value) :: (a.tmps.getD 7 undef : Value) :: (a.tmps.getD 8 undef : Value) :: (a.tmps.getD 9 undef : Value) :: (a.tmps.getD 10 undef : Value) :: (a.tmps.getD 11 undef : Value) :: (a.tmps.getD 12 undef : Value) :: (a.tmps.getD 13 undef : Value) :: (a.tmps.getD 14 undef : Value) :: (a.tmps.getD 15 undef : Value) :: (a.tmps.getD 16 undef : Value) :: (a.tmps.getD 17 undef : Value) :: (a.tmps.getD 18 undef : Value) :: (a.tmps.getD 19 undef : Value) :: (a.tmps.getD 20 undef : Value) :: (a.tmps.getD 21 undef : Value) :: (a.tmps.getD 22 undef : Value) :: (a.tmps.getD 23 undef : Value) :: (a.tmps.getD 24 undef : Value) :: (a.tmps.getD 25 undef : Value) :: (a.tmps.getD 26 undef : Value) :: (a.tmps.getD 27 undef : Value) :: (a.tmps.getD 28 undef : Value) :: (a.tmps.getD 29 undef : Value) :: (a.tmps.getD 30 undef : Value) :: (a.tmps.getD 31 undef : Value) :: (a.tmps.getD 32 undef : Value) :: (a.tmps.getD 33 undef : Value) :: (a.tmps.getD 34 undef : Value) :: (a.tmps.getD 35 undef : Value) :: (a.tmps.getD 36 undef : Value) :: (a.tmps.getD 37 undef : Value) :: (a.tmps.getD 38 undef : Value) :: (a.tmps.getD 39 undef : Value) :: (a.tmps.getD 40 undef : Value) :: (a.tmps.getD 41 undef : Value) :: (a.tmps.getD 42 undef : Value) :: (a.tmps.getD 43 undef : Value) :: (a.tmps.getD 44 undef : Value) :: (a.tmps.getD 45 undef : Value) :: (a.tmps.getD 46 undef : Value) :: (a.tmps.getD 47 undef : Value) :: (a.tmps.getD 48 undef : Value) :: (a.tmps.getD 49 undef : Value) :: ([] : List Value)).toArray := rfl
    rw [e, x0, x1, x2, x3, x4, x5, x6, x7, x8, x9, x10, x11, x12, x13, x14, x15, x16, x17, x18, x19, x20, x21, x22, x23, x24, x25, x26, x27, x28, x29, x30, x31, x32, x33, x34, x35, x36, x37, x38, x39, x40, x41, x42, x43, x44, x45, x46, x47, x48, x49] at h
    exact h
  obtain ⟨tmps, defers⟩ := a
  obtain rfl : defers = [] := hd
  have hl' : tmps = _ := hl
  rw [hl']
  have hb' := est2_chg hb
  exact hend w' ⟨hb'.os, hb'.tape, hb'.output, hb'.size, hb'.block⟩

end Go.Proofs.Ytjlhbaohippidaa

/-! ValR -/
namespace Go.Proofs.Ytjlhbaohippidaa
open Go.RowKit Go.IntWalk Go.Proofs.YtjlhbaohippidaaW.PrintWords Go.RegionInvYtjlhbaohippidaa Go.RegionEYtjlhbaohippidaa

theorem valR_in (vs : List Int) : ∀ {l : Lv}, Good l → 0 ≤ valR vs l ∧ valR vs l ≤ 1099511627776 := by
  intro l h
  induction h with
  | @mk k n ks h hk ih =>
    rcases good_cases (.mk h hk) with ⟨rfl, rfl, h0, h1⟩ | ⟨rfl, rfl, h0, h1⟩ | ⟨rfl, x, rfl, h0, h1, hx⟩ | ⟨rfl, x, y, rfl, -, -⟩
    · rw [valR_num]; omega
    · rw [valR_var]; exact vAt_in _ _
    · rw [valR_succ]; have := ih x (by simp); omega
    · rw [valR_max]; have := ih x (by simp); have := ih y (by simp); omega
theorem ReadsInt.still {w w' : World} {k : IntKind} {A : Option Addr} {n : Nat} {ks : List Int} (h : ReadsInt w k A n ks) (hs : ∀ b, b < w.heap.size → w'.heap[b]? = w.heap[b]?) : ReadsInt w' k A n ks := by
  refine ⟨h.1, h.2.1, fun hn => ?_⟩
  obtain ⟨ad, e, hc⟩ := h.2.2 hn
  refine ⟨ad, e, fun j hj => ?_⟩
  have hx := hc j hj
  exact (cell_same (w := w) (w' := w') (hs _ (World.block_lt_of_cell? w _ hx))).trans hx
abbrev vbW (w : World) (A : Option Addr) (m c : Nat) (k n : Int) : World := w.alloc (.cells #[.int .i64 k, .int .i64 n, .slice A m c] 24 (0, 0))
set_option maxHeartbeats 8000000 in
theorem ref_value (Av : Option Addr) (nv cv : Nat) (vs : List Int) (N : Nat) : ∀ (l : Lv), SizeOf.sizeOf l < N → Good l → ∀ (A : Option Addr) (c : Nat) (w : World), LvIn w w.heap.size A c l → ReadsInt w .i64 Av nv vs →
    Calls Try.prog 35 #[lvV A c l, .slice Av nv cv] w fun e w' => e = .returned (.int .i64 (valR vs l)) ∧ Below w.heap.size w w' := by
  induction N with
  | zero => intro l h; omega
  | succ N ih =>
    rintro ⟨lk, ln, ks⟩ hN hgood A c w hin hv
    have IH := Aside0.mk ih
    have HIN := Aside0.mk hin
    have HGOOD := Aside0.mk hgood
    have HV := Aside0.mk hv
    have HVL := Aside0.mk hv.1
    have hnv := hv.2.1
    clear ih hin hgood hv
    unfold lvV
    simp only [Lv.kind, Lv.num, Lv.kids]
    have HB1 := Aside0.mk (show Below w.heap.size w (vbW w A ks.length c lk ln) from below_alloc (Below.refl _ _) _)
    have HX2 := Aside0.mk (show (vbW w A ks.length c lk ln).heap[w.heap.size]? = some (.cells #[.int .i64 lk, .int .i64 ln, .slice A ks.length c] 24 (0, 0)) from blk_new w _)
    have HZ1 := Aside0.mk (show (vbW w A ks.length c lk ln).heap.size = w.heap.size + 1 by simp [vbW])
    rcases good_cases HGOOD.out with ⟨rfl, rfl, h0, h1⟩ | ⟨rfl, rfl, h0, h1⟩ | ⟨rfl, x, rfl, h0, h1, hx⟩ | ⟨rfl, x, y, rfl, hx, hy⟩
    · rw [valR_num]
      clear HGOOD
      go_enter Try.func35, Try.ntmps35
      go_wp2
      go_ret
      exact ⟨rfl, HB1.out⟩
    · rw [valR_var]
      obtain ⟨i, rfl⟩ := Int.eq_ofNat_of_zero_le h0
      rw [Int.toNat_natCast]
      clear HGOOD
      by_cases hi : i < nv
      · obtain ⟨ad, rfl, hc⟩ := (HV.out.below HB1.out).at_ i (by omega) (by omega)
        rw [Int.toNat_natCast] at hc
        have HE := Aside0.mk (vAt_lt (vs := vs) (i := i) (by rw [HVL.out]; exact hi))
        obtain ⟨z, hz⟩ : ∃ z, z = rd vs i := ⟨_, rfl⟩
        rw [← hz] at hc HE
        clear hz
        have hc' : (w.alloc (.cells #[.int .i64 2, .int .i64 i, .slice A 0 c] 24 (0, 0))).cell? (ad.add i) = some (.int .i64 z) := hc
        go_enter Try.func35, Try.ntmps35
        go_wp2
        all_goals go_ret
        all_goals exact ⟨congrArg (fun n => Ending.returned (.int .i64 n)) (by rw [HE.out]; omega), HB1.out⟩
      · have HE := Aside0.mk (vAt_ge (vs := vs) (i := i) (by rw [HVL.out]; exact hi))
        go_enter Try.func35, Try.ntmps35
        go_wp2
        go_ret
        exact ⟨by rw [HE.out]; rfl, HB1.out⟩
    · rw [valR_succ]
      obtain ⟨A', c', hcs, hxin⟩ := HIN.out.kid 0 x rfl
      obtain ⟨gb, off, rfl, hgb⟩ := kid_ptr hcs
      have HC := Aside0.mk (lit_kid (hcs.same (w' := vbW w (some ⟨gb, off, none⟩) [x].length c 3 ln) fun k hk _ => HB1.out.block k hk))
      have HRG := Aside0.mk (valR_in vs hx)
      have HXIN := Aside0.mk hxin
      have HX := Aside0.mk hx
      clear hcs hx hxin HGOOD
      go_enter Try.func35, Try.ntmps35
      go_upto_region 9 with (fail)
      refine vl9_region (vbW w (some ⟨gb, off, none⟩) [x].length c 3 ln) w.heap.size 3 ln gb off c Av nv cv x.kind x.num A' x.kids.length c' (valR vs x) HX2.out hgb HC.out.1 HC.out.2.1 HC.out.2.2 (fun w5 hw5 hz5 => ?_) (by have := HRG.out; rw [i64_left, wrap64_in _ (by omega)]) ?_
      · have hkid := kid_small (k := 3) (n := ln) (ks := [x]) (i := 0) (x := x) rfl
        exact IH.out x (by omega) HX.out A' c' w5 (LvS.all (HXIN.out.same fun k hk _ => (hw5 k hk).trans (HB1.out.block k hk))) (ReadsInt.still HV.out fun k hk => (hw5 k hk).trans (HB1.out.block k hk))
      · intro w9 hch
        have HBN := Aside0.mk (below_then HB1.out HB1.out.size (hch.below (fun _ h => h.elim False.elim False.elim) (Nat.le_refl _)))
        clear hch
        go_wp2
        all_goals go_ret
        all_goals exact ⟨congrArg (fun n => Ending.returned (.int .i64 n)) (by omega), HBN.out⟩
    · rw [valR_max]
      obtain ⟨A', c', hcs, hxin⟩ := HIN.out.kid 0 x rfl
      obtain ⟨A'', c'', hcs', hyin⟩ := HIN.out.kid 1 y rfl
      obtain ⟨gb, off, rfl, hgb⟩ := kid_ptr hcs
      have HC := Aside0.mk (lit_kid (hcs.same (w' := vbW w (some ⟨gb, off, none⟩) [x, y].length c 4 ln) fun k hk _ => HB1.out.block k hk))
      have HC' := Aside0.mk (lit_kid (hcs'.same (w' := vbW w (some ⟨gb, off, none⟩) [x, y].length c 4 ln) fun k hk _ => HB1.out.block k hk))
      have HXIN := Aside0.mk hxin
      have HYIN := Aside0.mk hyin
      have HX := Aside0.mk hx
      have HY := Aside0.mk hy
      clear hcs hx hxin hcs' hy hyin HGOOD
      go_enter Try.func35, Try.ntmps35
      go_upto_region 10 with (fail)
      refine vl10_region (vbW w (some ⟨gb, off, none⟩) [x, y].length c 4 ln) w.heap.size 4 ln gb off c Av nv cv x.kind x.num A' x.kids.length c' (valR vs x) y.kind y.num A'' y.kids.length c'' (valR vs y) HX2.out hgb HC.out.1 HC.out.2.1 HC.out.2.2 HC'.out.1 HC'.out.2.1 HC'.out.2.2 (fun w5 hw5 hz5 => ?_) (fun w5 hw5 hz5 => ?_) ?_
      · have hkid := kid_small (k := 4) (n := ln) (ks := [x, y]) (i := 0) (x := x) rfl
        exact IH.out x (by omega) HX.out A' c' w5 (LvS.all (HXIN.out.same fun k hk _ => (hw5 k hk).trans (HB1.out.block k hk))) (ReadsInt.still HV.out fun k hk => (hw5 k hk).trans (HB1.out.block k hk))
      · have hkid := kid_small (k := 4) (n := ln) (ks := [x, y]) (i := 1) (x := y) rfl
        exact IH.out y (by omega) HY.out A'' c'' w5 (LvS.all (HYIN.out.same fun k hk _ => (hw5 k hk).trans (HB1.out.block k hk))) (ReadsInt.still HV.out fun k hk => (hw5 k hk).trans (HB1.out.block k hk))
      · intro w9 hch
        have HBN := Aside0.mk (below_then HB1.out HB1.out.size (hch.below (fun _ h => h.elim False.elim False.elim) (Nat.le_refl _)))
        clear hch
        go_wp2
        go_ret
        exact ⟨rfl, HBN.out⟩
set_option maxHeartbeats 4000000 in
theorem refValue_calls (A Av : Option Addr) (c nv cv : Nat) (l : Lv) (vs : List Int) (w : World) (hin : LvIn w w.heap.size A c l) (hv : ReadsInt w .i64 Av nv vs) :
    Calls Try.prog 15 #[lvV A c l, .slice Av nv cv] w fun e w' => e = .returned (.int .i64 (valB vs l)) ∧ Below w.heap.size w w' := by
  have HIN := Aside0.mk hin
  have HV := Aside0.mk hv
  clear hin hv
  unfold lvV
  have HB0 := Aside0.mk (show Below w.heap.size w (w.alloc (.cells #[.int .i64 l.kind, .int .i64 l.num, .slice A l.kids.length c] 24 (0, 0))) from below_alloc (Below.refl _ _) _)
  have HX0 := Aside0.mk (blk_new w (.cells #[.int .i64 l.kind, .int .i64 l.num, .slice A l.kids.length c] 24 (0, 0)))
  go_enter Try.func15, Try.ntmps15
  cases hs : soundB l with
  | false =>
    have HE := Aside0.mk (valB_no (vs := vs) hs)
    have HS := Aside0.mk hs
    clear hs
    go_wp2_with (first
      | (go_at_call 16; go_must (refine (refSound_calls A c l _ (LvS.all (HIN.out.stay HB0.out))).mono ?_; rintro e w1 ⟨rfl, hb⟩; rw [HS.out]; have HB1 := Aside0.mk (below_then HB0.out HB0.out.size hb); clear hb)))
    go_ret
    exact ⟨by rw [HE.out]; rfl, HB1.out⟩
  | true =>
    have HE := Aside0.mk (show valR vs l = valB vs l by rw [valB_yes hs, ← valN_sum vs (good_of_sound hs)])
    have HG := Aside0.mk (good_of_sound hs)
    have HS := Aside0.mk hs
    clear hs
    go_wp2_with (first
      | (go_at_call 16; go_must (refine (refSound_calls A c l _ (LvS.all (HIN.out.stay HB0.out))).mono ?_; rintro e w1 ⟨rfl, hb⟩; rw [HS.out]; have HB1 := Aside0.mk (below_then HB0.out HB0.out.size hb); obtain ⟨p0, p1, p2, -, -, -⟩ := row3 (blk_below HX0.out hb); clear hb))
      | (go_at_call 35; go_must (refine (ref_value Av nv cv vs _ l (Nat.lt_succ_self _) HG.out A c _ (LvS.all (HIN.out.stay HB1.out)) (HV.out.below HB1.out)).mono ?_; rintro e w2 ⟨rfl, hb⟩; rw [HE.out]; have HB2 := Aside0.mk (below_then HB1.out HB1.out.size hb); clear hb)))
    go_ret
    exact ⟨rfl, HB2.out⟩
end Go.Proofs.Ytjlhbaohippidaa

/-! PuR -/
namespace Go.Proofs.Ytjlhbaohippidaa
open Go.RowKit Go.Proofs.YtjlhbaohippidaaW.PrintWords Go.RegionInvYtjlhbaohippidaa Go.RegionEYtjlhbaohippidaa
set_option linter.unusedVariables false

def pu1_ops : List Oper := [
  { dst := some 87, op := Go.Op.load 24 (Go.Operand.tmp 14), type := 24, pos := "law.go:147", after := #[], guard := none },
  { dst := some 88, op := Go.Op.call { callee := Go.Callee.value (Go.Operand.func 16), args := #[Go.Operand.tmp 87], argTypes := #[24] }, type := 4, pos := "law.go:147", after := #[{ on := 0, ground := Go.Ground.data }], guard := none },
  { dst := some 89, op := Go.Op.unOp Go.UnOp.not 4 (Go.Operand.tmp 88), type := 4, pos := "law.go:147", after := #[{ on := 1, ground := Go.Ground.data }], guard := none },
  { dst := some 90, op := Go.Op.move (Go.Operand.tmp 89), type := 4, pos := "law.go:147", after := #[{ on := 2, ground := Go.Ground.data }, { on := 1, ground := Go.Ground.chain }], guard := none },
  { dst := some 91, op := Go.Op.load 24 (Go.Operand.tmp 14), type := 24, pos := "law.go:147", after := #[{ on := 3, ground := Go.Ground.guard }], guard := some (3, false) },
  { dst := some 92, op := Go.Op.move (Go.Operand.tmp 7), type := 29, pos := "law.go:147", after := #[{ on := 3, ground := Go.Ground.guard }], guard := some (3, false) },
  { dst := some 93, op := Go.Op.call { callee := Go.Callee.value (Go.Operand.func 14), args := #[Go.Operand.tmp 91, Go.Operand.tmp 92], argTypes := #[24, 29] }, type := 3, pos := "law.go:147", after := #[{ on := 4, ground := Go.Ground.data }, { on := 5, ground := Go.Ground.data }, { on := 3, ground := Go.Ground.chain }, { on := 3, ground := Go.Ground.guard }], guard := some (3, false) },
  { dst := some 94, op := Go.Op.load 24 (Go.Operand.tmp 3), type := 24, pos := "law.go:147", after := #[{ on := 3, ground := Go.Ground.guard }], guard := some (3, false) },
  { dst := some 95, op := Go.Op.move (Go.Operand.tmp 10), type := 29, pos := "law.go:147", after := #[{ on := 3, ground := Go.Ground.guard }], guard := some (3, false) },
  { dst := some 96, op := Go.Op.call { callee := Go.Callee.value (Go.Operand.func 14), args := #[Go.Operand.tmp 94, Go.Operand.tmp 95], argTypes := #[24, 29] }, type := 3, pos := "law.go:147", after := #[{ on := 7, ground := Go.Ground.data }, { on := 8, ground := Go.Ground.data }, { on := 6, ground := Go.Ground.chain }, { on := 3, ground := Go.Ground.guard }], guard := some (3, false) },
  { dst := some 97, op := Go.Op.binOp Go.BinOp.eql 3 (Go.Operand.tmp 93) (Go.Operand.tmp 96) 3, type := 4, pos := "law.go:147", after := #[{ on := 6, ground := Go.Ground.data }, { on := 9, ground := Go.Ground.data }, { on := 3, ground := Go.Ground.guard }], guard := some (3, false) },
  { dst := some 98, op := Go.Op.pick (Go.Operand.tmp 90) (Go.Operand.const (Go.Value.bool true)) (Go.Operand.tmp 97), type := 4, pos := "law.go:147", after := #[{ on := 3, ground := Go.Ground.data }, { on := 10, ground := Go.Ground.data }], guard := none },
  { dst := some 99, op := Go.Op.move (Go.Operand.tmp 98), type := 4, pos := "law.go:147", after := #[{ on := 11, ground := Go.Ground.data }, { on := 9, ground := Go.Ground.chain }], guard := none },
  { dst := some 100, op := Go.Op.call { callee := Go.Callee.value (Go.Operand.func 13), args := #[], argTypes := #[] }, type := 4, pos := "law.go:147", after := #[{ on := 12, ground := Go.Ground.chain }, { on := 12, ground := Go.Ground.guard }], guard := some (12, true) },
  { dst := some 101, op := Go.Op.pick (Go.Operand.tmp 99) (Go.Operand.tmp 100) (Go.Operand.const (Go.Value.bool false)), type := 4, pos := "law.go:147", after := #[{ on := 12, ground := Go.Ground.data }, { on := 13, ground := Go.Ground.data }], guard := none },
  { dst := some 6, op := Go.Op.assign (Go.Operand.tmp 101), type := 4, pos := "law.go:147", after := #[{ on := 14, ground := Go.Ground.data }, { on := 13, ground := Go.Ground.chain }, { on := 0, ground := Go.Ground.phase }, { on := 1, ground := Go.Ground.phase }, { on := 2, ground := Go.Ground.phase }, { on := 3, ground := Go.Ground.phase }, { on := 4, ground := Go.Ground.phase }, { on := 5, ground := Go.Ground.phase }, { on := 6, ground := Go.Ground.phase }, { on := 7, ground := Go.Ground.phase }, { on := 8, ground := Go.Ground.phase }, { on := 9, ground := Go.Ground.phase }, { on := 10, ground := Go.Ground.phase }, { on := 11, ground := Go.Ground.phase }, { on := 12, ground := Go.Ground.phase }, { on := 13, ground := Go.Ground.phase }, { on := 14, ground := Go.Ground.phase }], guard := none }]
def pu1_F (w0 : World) (p b : Nat) (Ax Al Av Aw : Option Addr) (cx cl nv cv nw cw : Nat) (lx ll : Lv) (vs ws : List Int) : Nat → (Nat → Value) → Value → World → (Nat → Prop) → Prop := fun rix => match rix with
  | 0 => fun _ v _ _ => v = lvV Ax cx lx
  | 1 => fun _ v _ _ => v = .bool true
  | 2 => fun _ v _ _ => v = .bool false
  | 3 => fun _ v _ _ => v = .bool false
  | 4 => fun _ v _ _ => v = lvV Ax cx lx
  | 5 => fun _ v _ _ => v = .slice Av nv cv
  | 6 => fun _ v _ _ => v = .int .i64 (valB vs lx)
  | 7 => fun _ v _ _ => v = lvV Al cl ll
  | 8 => fun _ v _ _ => v = .slice Aw nw cw
  | 9 => fun _ v _ _ => v = .int .i64 (valB ws ll)
  | 10 => fun _ v _ _ => v = .bool true
  | 11 => fun _ v _ _ => v = .bool true
  | 12 => fun _ v _ _ => v = .bool true
  | 13 => fun _ v _ _ => v = .bool true
  | 14 => fun _ v _ _ => v = .bool true
  | 15 => fun _ v _ _ => v = .bool true
  | _ => fun _ _ _ _ => True
def pu1_C : Nat → List Nat := fun rix => match rix with
  | _ => []
theorem pu1_nw3 : nwB pu1_ops.toArray 3 = true := by kernel_rfl
theorem pu1_nw7 : nwB pu1_ops.toArray 7 = true := by kernel_rfl
theorem pu1_nw10 : nwB pu1_ops.toArray 10 = true := by kernel_rfl
theorem pu1_nw14 : nwB pu1_ops.toArray 14 = true := by kernel_rfl
set_option maxRecDepth 100000 in
set_option maxHeartbeats 8000000 in
theorem pu1_obs (w0 : World) (p b : Nat) (Ax Al Av Aw : Option Addr) (cx cl nv cv nw cw : Nat) (lx ll : Lv) (vs ws : List Int) (hxx : w0.heap[p]? = some (.cells #[.int .i64 lx.kind, .int .i64 lx.num, .slice Ax lx.kids.length cx] 24 (0, 0))) (hinx : LvS w0 (fun k => k < w0.heap.size) Ax cx lx) (hxl : w0.heap[b]? = some (.cells #[.int .i64 ll.kind, .int .i64 ll.num, .slice Al ll.kids.length cl] 24 (0, 0))) (hinl : LvS w0 (fun k => k < w0.heap.size) Al cl ll) (hv : ReadsInt w0 .i64 Av nv vs) (hw : ReadsInt w0 .i64 Aw nw ws) (hsx : soundB lx = true) (hxl2 : valB vs lx = valB ws ll) (Q : Exit → Act → World → Prop) (a0 : Act) (hi3 : a0.tmps.getD 3 undef = .pointer (some ⟨b, 0, none⟩)) (hi7 : a0.tmps.getD 7 undef = .slice Av nv cv) (hi10 : a0.tmps.getD 10 undef = .slice Aw nw cw) (hi14 : a0.tmps.getD 14 undef = .pointer (some ⟨p, 0, none⟩)) :
    ObsE Try.prog pu1_ops.toArray Q (est2 0 0 (fun _ => False) (fun _ => False)) pu1_C (pu1_F w0 p b Ax Al Av Aw cx cl nv cv nw cw lx ll vs ws) a0 w0 pu1_ops.toArray.toList 0 := by
  have nw3 := pu1_nw3
  have nw7 := pu1_nw7
  have nw10 := pu1_nw10
  have nw14 := pu1_nw14
  refine ⟨?_, ?_, ?_, ?_, ?_, ?_, ?_, ?_, ?_, ?_, ?_, ?_, ?_, ?_, ?_, ?_, trivial⟩
  · refine ⟨⟨fun τ => stableE_det _, leans_not⟩, ?_⟩
    intro a w O hk
    have e14 : a.eval (.tmp 14) = .pointer (some ⟨p, 0, none⟩) := (hk.init 14 (initialB_of_nw nw14)).trans hi14
    have x14 := hk.world.still hxx (fun ⟨_, h⟩ => h.elim And.right And.right)
    exact obE_loadRow rfl e14 x14 Try.underlying24 rfl (by kernel_rfl) (wanted_none rfl) rfl
  · refine ⟨⟨fun τ => stableE_det _, leans_not⟩, ?_⟩
    intro a w O hk
    have e87 : a.eval (.tmp 87) = lvV Ax cx lx := hk.fact 0 _ 87 rfl rfl rfl rfl
    exact obE_callV #[lvV Ax cx lx] rfl rfl rfl rfl (by simp only [List.map_cons, List.map_nil]; rw [e87]) (wanted_none rfl) (by have h := refSound_calls Ax cx lx w (LvS.all (LvS.same hinx (fun k hk' _ => hk.fix k ((fun k hk' => est2_fix hk' (fun h => h) (fun h => h)) k hk')))); rwa [hsx] at h)
  · refine ⟨⟨fun τ => stableE_det _, leans_not⟩, ?_⟩
    intro a w O hk
    have e88 : a.eval (.tmp 88) = .bool true := hk.fact 1 _ 88 rfl rfl rfl rfl
    have x14 := hk.world.still hxx (fun ⟨_, h⟩ => h.elim And.right And.right)
    have x3 := hk.world.still hxl (fun ⟨_, h⟩ => h.elim And.right And.right)
    exact obE_run (wanted_none rfl) (by unfold execOp; simp only []; rw [e88]; go_simp) rfl
  · refine ⟨⟨fun τ => stableE_det _, leans_not⟩, ?_⟩
    intro a w O hk
    have e89 : a.eval (.tmp 89) = .bool false := hk.fact 2 _ 89 rfl rfl rfl rfl
    exact toE (ob_move rfl e89 (wanted_none rfl) rfl)
  · refine ⟨⟨fun τ => stableE_det _, leans_not⟩, ?_⟩
    intro a w O hk
    have e14 : a.eval (.tmp 14) = .pointer (some ⟨p, 0, none⟩) := (hk.init 14 (initialB_of_nw nw14)).trans hi14
    have e90 : a.eval (.tmp 90) = .bool false := hk.fact 3 _ 90 rfl rfl rfl rfl
    have x14 := hk.world.still hxx (fun ⟨_, h⟩ => h.elim And.right And.right)
    exact obE_loadRow rfl e14 x14 Try.underlying24 rfl (by kernel_rfl) (wanted_of rfl rfl rfl e90) rfl
  · refine ⟨⟨fun τ => stableE_det _, leans_not⟩, ?_⟩
    intro a w O hk
    have e7 : a.eval (.tmp 7) = .slice Av nv cv := (hk.init 7 (initialB_of_nw nw7)).trans hi7
    have e90 : a.eval (.tmp 90) = .bool false := hk.fact 3 _ 90 rfl rfl rfl rfl
    exact toE (ob_move rfl e7 (wanted_of rfl rfl rfl e90) rfl)
  · refine ⟨⟨fun τ => stableE_det _, leans_not⟩, ?_⟩
    intro a w O hk
    have e91 : a.eval (.tmp 91) = lvV Ax cx lx := hk.fact 4 _ 91 rfl rfl rfl rfl
    have e92 : a.eval (.tmp 92) = .slice Av nv cv := hk.fact 5 _ 92 rfl rfl rfl rfl
    have e90 : a.eval (.tmp 90) = .bool false := hk.fact 3 _ 90 rfl rfl rfl rfl
    exact obE_callV #[lvV Ax cx lx, .slice Av nv cv] rfl rfl rfl rfl (by simp only [List.map_cons, List.map_nil]; rw [e91, e92]) (wanted_of rfl rfl rfl e90) (value_calls Ax Av cx nv cv lx vs w (LvS.all (LvS.same hinx (fun k hk' _ => hk.fix k ((fun k hk' => est2_fix hk' (fun h => h) (fun h => h)) k hk')))) (ReadsInt.still hv fun k hk' => hk.fix k (est2_fix hk' (fun h => h) (fun h => h))))
  · refine ⟨⟨fun τ => stableE_det _, leans_not⟩, ?_⟩
    intro a w O hk
    have e3 : a.eval (.tmp 3) = .pointer (some ⟨b, 0, none⟩) := (hk.init 3 (initialB_of_nw nw3)).trans hi3
    have e90 : a.eval (.tmp 90) = .bool false := hk.fact 3 _ 90 rfl rfl rfl rfl
    have x3 := hk.world.still hxl (fun ⟨_, h⟩ => h.elim And.right And.right)
    exact obE_loadRow rfl e3 x3 Try.underlying24 rfl (by kernel_rfl) (wanted_of rfl rfl rfl e90) rfl
  · refine ⟨⟨fun τ => stableE_det _, leans_not⟩, ?_⟩
    intro a w O hk
    have e10 : a.eval (.tmp 10) = .slice Aw nw cw := (hk.init 10 (initialB_of_nw nw10)).trans hi10
    have e90 : a.eval (.tmp 90) = .bool false := hk.fact 3 _ 90 rfl rfl rfl rfl
    exact toE (ob_move rfl e10 (wanted_of rfl rfl rfl e90) rfl)
  · refine ⟨⟨fun τ => stableE_det _, leans_not⟩, ?_⟩
    intro a w O hk
    have e94 : a.eval (.tmp 94) = lvV Al cl ll := hk.fact 7 _ 94 rfl rfl rfl rfl
    have e95 : a.eval (.tmp 95) = .slice Aw nw cw := hk.fact 8 _ 95 rfl rfl rfl rfl
    have e90 : a.eval (.tmp 90) = .bool false := hk.fact 3 _ 90 rfl rfl rfl rfl
    exact obE_callV #[lvV Al cl ll, .slice Aw nw cw] rfl rfl rfl rfl (by simp only [List.map_cons, List.map_nil]; rw [e94, e95]) (wanted_of rfl rfl rfl e90) (value_calls Al Aw cl nw cw ll ws w (LvS.all (LvS.same hinl (fun k hk' _ => hk.fix k ((fun k hk' => est2_fix hk' (fun h => h) (fun h => h)) k hk')))) (ReadsInt.still hw fun k hk' => hk.fix k (est2_fix hk' (fun h => h) (fun h => h))))
  · refine ⟨⟨fun τ => stableE_det _, leans_not⟩, ?_⟩
    intro a w O hk
    have e93 : a.eval (.tmp 93) = .int .i64 (valB vs lx) := hk.fact 6 _ 93 rfl rfl rfl rfl
    have e96 : a.eval (.tmp 96) = .int .i64 (valB ws ll) := hk.fact 9 _ 96 rfl rfl rfl rfl
    have e90 : a.eval (.tmp 90) = .bool false := hk.fact 3 _ 90 rfl rfl rfl rfl
    exact toE (ob_eqlInt true rfl e93 e96 (by simpa using hxl2) (wanted_of rfl rfl rfl e90) rfl)
  · refine ⟨⟨fun τ => stableE_det _, leans_not⟩, ?_⟩
    intro a w O hk
    have e90 : a.eval (.tmp 90) = .bool false := hk.fact 3 _ 90 rfl rfl rfl rfl
    have e97 : a.eval (.tmp 97) = .bool true := hk.fact 10 _ 97 rfl rfl rfl rfl
    exact toE (ob_pick rfl e90 e97 (wanted_none rfl) rfl)
  · refine ⟨⟨fun τ => stableE_det _, leans_not⟩, ?_⟩
    intro a w O hk
    have e98 : a.eval (.tmp 98) = .bool true := hk.fact 11 _ 98 rfl rfl rfl rfl
    exact toE (ob_move rfl e98 (wanted_none rfl) rfl)
  · refine ⟨⟨fun τ => stableE_det _, leans_not⟩, ?_⟩
    intro a w O hk
    have e99 : a.eval (.tmp 99) = .bool true := hk.fact 12 _ 99 rfl rfl rfl rfl
    exact obE_awake rfl (wanted_of rfl rfl rfl e99)
  · refine ⟨⟨fun τ => stableE_det _, leans_not⟩, ?_⟩
    intro a w O hk
    have e99 : a.eval (.tmp 99) = .bool true := hk.fact 12 _ 99 rfl rfl rfl rfl
    have e100 : a.eval (.tmp 100) = .bool true := hk.fact 13 _ 100 rfl rfl rfl rfl
    exact toE (ob_pick rfl e99 e100 (wanted_none rfl) rfl)
  · refine ⟨⟨fun τ => stableE_det _, leans_not⟩, ?_⟩
    intro a w O hk
    have e101 : a.eval (.tmp 101) = .bool true := hk.fact 14 _ 101 rfl rfl rfl rfl
    exact toE (ob_assign rfl e101 (wanted_none rfl) rfl)
set_option maxRecDepth 100000 in
set_option maxHeartbeats 8000000 in
theorem pu1_region {Q : Exit → Act → World → Prop} {id : Nat} (w0 : World) (p b : Nat) (Ax Al Av Aw : Option Addr) (cx cl nv cv nw cw : Nat) (lx ll : Lv) (vs ws : List Int) {s0 s1 s2 s4 s5 s6 s8 s9 s11 s12 s13 s15 s16 s17 s18 s19 s20 s21 s22 s23 s24 s25 s26 s27 s28 s29 s30 s31 s32 s33 s34 s35 s36 s37 s38 s39 s40 s41 s42 s43 s44 s45 s46 s47 s48 s49 s50 s51 s52 s53 s54 s55 s56 s57 s58 s59 s60 s61 s62 s63 s64 s65 s66 s67 s68 s69 s70 s71 s72 s73 s74 s75 s76 s77 s78 s79 s80 s81 s82 s83 s84 s85 s86 s87 s88 s89 s90 s91 s92 s93 s94 s95 s96 s97 s98 s99 s100 s101 : Value} (hxx : w0.heap[p]? = some (.cells #[.int .i64 lx.kind, .int .i64 lx.num, .slice Ax lx.kids.length cx] 24 (0, 0))) (hinx : LvS w0 (fun k => k < w0.heap.size) Ax cx lx) (hxl : w0.heap[b]? = some (.cells #[.int .i64 ll.kind, .int .i64 ll.num, .slice Al ll.kids.length cl] 24 (0, 0))) (hinl : LvS w0 (fun k => k < w0.heap.size) Al cl ll) (hv : ReadsInt w0 .i64 Av nv vs) (hw : ReadsInt w0 .i64 Aw nw ws) (hsx : soundB lx = true) (hxl2 : valB vs lx = valB ws ll)
    (hend : ∀ (w' : World), Chg (fun k => False ∨ False) w0 w' → Q .normal { tmps := (s0 :: s1 :: s2 :: (.pointer (some ⟨b, 0, none⟩) : Value) :: s4 :: s5 :: (.bool true : Value) :: (.slice Av nv cv : Value) :: s8 :: s9 :: (.slice Aw nw cw : Value) :: s11 :: s12 :: s13 :: (.pointer (some ⟨p, 0, none⟩) : Value) :: s15 :: s16 :: s17 :: s18 :: s19 :: s20 :: s21 :: s22 :: s23 :: s24 :: s25 :: s26 :: s27 :: s28 :: s29 :: s30 :: s31 :: s32 :: s33 :: s34 :: s35 :: s36 :: s37 :: s38 :: s39 :: s40 :: s41 :: s42 :: s43 :: s44 :: s45 :: s46 :: s47 :: s48 :: s49 :: s50 :: s51 :: s52 :: s53 :: s54 :: s55 :: s56 :: s57 :: s58 :: s59 :: s60 :: s61 :: s62 :: s63 :: s64 :: s65 :: s66 :: s67 :: s68 :: s69 :: s70 :: s71 :: s72 :: s73 :: s74 :: s75 :: s76 :: s77 :: s78 :: s79 :: s80 :: s81 :: s82 :: s83 :: s84 :: s85 :: s86 :: (lvV Ax cx lx : Value) :: (.bool true : Value) :: (.bool false : Value) :: (.bool false : Value) :: (lvV Ax cx lx : Value) :: (.slice Av nv cv : Value) :: (.int .i64 (valB vs lx) : Value) :: (lvV Al cl ll : Value) :: (.slice Aw nw cw : Value) :: (.int .i64 (valB ws ll) : Value) :: (.bool true : Value) :: (.bool true : Value) :: (.bool true : Value) :: (.bool true : Value) :: (.bool true : Value) :: ([] : List Value)).toArray, defers := [] } w') :
    (Code.region id pu1_ops.toArray true).wp Try.prog Q { tmps := (s0 :: s1 :: s2 :: (.pointer (some ⟨b, 0, none⟩) : Value) :: s4 :: s5 :: s6 :: (.slice Av nv cv : Value) :: s8 :: s9 :: (.slice Aw nw cw : Value) :: s11 :: s12 :: s13 :: (.pointer (some ⟨p, 0, none⟩) : Value) :: s15 :: s16 :: s17 :: s18 :: s19 :: s20 :: s21 :: s22 :: s23 :: s24 :: s25 :: s26 :: s27 :: s28 :: s29 :: s30 :: s31 :: s32 :: s33 :: s34 :: s35 :: s36 :: s37 :: s38 :: s39 :: s40 :: s41 :: s42 :: s43 :: s44 :: s45 :: s46 :: s47 :: s48 :: s49 :: s50 :: s51 :: s52 :: s53 :: s54 :: s55 :: s56 :: s57 :: s58 :: s59 :: s60 :: s61 :: s62 :: s63 :: s64 :: s65 :: s66 :: s67 :: s68 :: s69 :: s70 :: s71 :: s72 :: s73 :: s74 :: s75 :: s76 :: s77 :: s78 :: s79 :: s80 :: s81 :: s82 :: s83 :: s84 :: s85 :: s86 :: s87 :: s88 :: s89 :: s90 :: s91 :: s92 :: s93 :: s94 :: s95 :: s96 :: s97 :: s98 :: s99 :: s100 :: s101 :: ([] : List Value)).toArray, defers := [] } w0 := by
  refine wp_region_est (by kernel_rfl) (est2 0 0 (fun _ => False) (fun _ => False)) pu1_C (pu1_F w0 p b Ax Al Av Aw cx cl nv cv nw cw lx ll vs ws) (est2_dis (fun _ h _ => h)) (est2_range (fun _ h => h.elim) (fun _ h => h.elim)) (by rfl) (by kernel_rfl) (pu1_obs w0.drew p b Ax Al Av Aw cx cl nv cv nw cw lx ll vs ws hxx (LvS.later hinx (below_drew (Below.refl _ _))) hxl (LvS.later hinl (below_drew (Below.refl _ _))) (hv.below (below_drew (Below.refl _ _))) (hw.below (below_drew (Below.refl _ _))) hsx hxl2 _ _ rfl rfl rfl rfl) ?_
  intro a w' O hd hs hb hf hf2 ha hsame
  have hx : ∀ (qi : Nat) (qv : Value), nwB pu1_ops.toArray qi = true → (s0 :: s1 :: s2 :: (.pointer (some ⟨b, 0, none⟩) : Value) :: s4 :: s5 :: s6 :: (.slice Av nv cv : Value) :: s8 :: s9 :: (.slice Aw nw cw : Value) :: s11 :: s12 :: s13 :: (.pointer (some ⟨p, 0, none⟩) : Value) :: s15 :: s16 :: s17 :: s18 :: s19 :: s20 :: s21 :: s22 :: s23 :: s24 :: s25 :: s26 :: s27 :: s28 :: s29 :: s30 :: s31 :: s32 :: s33 :: s34 :: s35 :: s36 :: s37 :: s38 :: s39 :: s40 :: s41 :: s42 :: s43 :: s44 :: s45 :: s46 :: s47 :: s48 :: s49 :: s50 :: s51 :: s52 :: s53 :: s54 :: s55 :: s56 :: s57 :: s58 :: s59 :: s60 :: s61 :: s62 :: s63 :: s64 :: s65 :: s66 :: s67 :: s68 :: s69 :: s70 :: s71 :: s72 :: s73 :: s74 :: s75 :: s76 :: s77 :: s78 :: s79 :: s80 :: s81 :: s82 :: s83 :: s84 :: s85 :: s86 :: s87 :: s88 :: s89 :: s90 :: s91 :: s92 :: s93 :: s94 :: s95 :: s96 :: s97 :: s98 :: s99 :: s100 :: s101 :: ([] : List Value)).toArray.getD qi undef = qv → a.tmps.getD qi undef = qv := fun qi qv h e => (hsame qi (nwB.spec h)).trans e
  have x0 := hx 0 s0 (by kernel_rfl) rfl
  have x1 := hx 1 s1 (by kernel_rfl) rfl
  have x2 := hx 2 s2 (by kernel_rfl) rfl
  have x3 := hx 3 (.pointer (some ⟨b, 0, none⟩)) (by kernel_rfl) rfl
  have x4 := hx 4 s4 (by kernel_rfl) rfl
  have x5 := hx 5 s5 (by kernel_rfl) rfl
  have x6 : a.tmps.getD 6 undef = .bool true := (hf 15 _ 6 rfl rfl (by decide)).1
  have x7 := hx 7 (.slice Av nv cv) (by kernel_rfl) rfl
  have x8 := hx 8 s8 (by kernel_rfl) rfl
  have x9 := hx 9 s9 (by kernel_rfl) rfl
  have x10 := hx 10 (.slice Aw nw cw) (by kernel_rfl) rfl
  have x11 := hx 11 s11 (by kernel_rfl) rfl
  have x12 := hx 12 s12 (by kernel_rfl) rfl
  have x13 := hx 13 s13 (by kernel_rfl) rfl
  have x14 := hx 14 (.pointer (some ⟨p, 0, none⟩)) (by kernel_rfl) rfl
  have x15 := hx 15 s15 (by kernel_rfl) rfl
  have x16 := hx 16 s16 (by kernel_rfl) rfl
  have x17 := hx 17 s17 (by kernel_rfl) rfl
  have x18 := hx 18 s18 (by kernel_rfl) rfl
  have x19 := hx 19 s19 (by kernel_rfl) rfl
  have x20 := hx 20 s20 (by kernel_rfl) rfl
  have x21 := hx 21 s21 (by kernel_rfl) rfl
  have x22 := hx 22 s22 (by kernel_rfl) rfl
  have x23 := hx 23 s23 (by kernel_rfl) rfl
  have x24 := hx 24 s24 (by kernel_rfl) rfl
  have x25 := hx 25 s25 (by kernel_rfl) rfl
  have x26 := hx 26 s26 (by kernel_rfl) rfl
  have x27 := hx 27 s27 (by kernel_rfl) rfl
  have x28 := hx 28 s28 (by kernel_rfl) rfl
  have x29 := hx 29 s29 (by kernel_rfl) rfl
  have x30 := hx 30 s30 (by kernel_rfl) rfl
  have x31 := hx 31 s31 (by kernel_rfl) rfl
  have x32 := hx 32 s32 (by kernel_rfl) rfl
  have x33 := hx 33 s33 (by kernel_rfl) rfl
  have x34 := hx 34 s34 (by kernel_rfl) rfl
  have x35 := hx 35 s35 (by kernel_rfl) rfl
  have x36 := hx 36 s36 (by kernel_rfl) rfl
  have x37 := hx 37 s37 (by kernel_rfl) rfl
  have x38 := hx 38 s38 (by kernel_rfl) rfl
  have x39 := hx 39 s39 (by kernel_rfl) rfl
  have x40 := hx 40 s40 (by kernel_rfl) rfl
  have x41 := hx 41 s41 (by kernel_rfl) rfl
  have x42 := hx 42 s42 (by kernel_rfl) rfl
  have x43 := hx 43 s43 (by kernel_rfl) rfl
  have x44 := hx 44 s44 (by kernel_rfl) rfl
  have x45 := hx 45 s45 (by kernel_rfl) rfl
  have x46 := hx 46 s46 (by kernel_rfl) rfl
  have x47 := hx 47 s47 (by kernel_rfl) rfl
  have x48 := hx 48 s48 (by kernel_rfl) rfl
  have x49 := hx 49 s49 (by kernel_rfl) rfl
  have x50 := hx 50 s50 (by kernel_rfl) rfl
  have x51 := hx 51 s51 (by kernel_rfl) rfl
  have x52 := hx 52 s52 (by kernel_rfl) rfl
  have x53 := hx 53 s53 (by kernel_rfl) rfl
  have x54 := hx 54 s54 (by kernel_rfl) rfl
  have x55 := hx 55 s55 (by kernel_rfl) rfl
  have x56 := hx 56 s56 (by kernel_rfl) rfl
  have x57 := hx 57 s57 (by kernel_rfl) rfl
  have x58 := hx 58 s58 (by kernel_rfl) rfl
  have x59 := hx 59 s59 (by kernel_rfl) rfl
  have x60 := hx 60 s60 (by kernel_rfl) rfl
  have x61 := hx 61 s61 (by kernel_rfl) rfl
  have x62 := hx 62 s62 (by kernel_rfl) rfl
  have x63 := hx 63 s63 (by kernel_rfl) rfl
  have x64 := hx 64 s64 (by kernel_rfl) rfl
  have x65 := hx 65 s65 (by kernel_rfl) rfl
  have x66 := hx 66 s66 (by kernel_rfl) rfl
  have x67 := hx 67 s67 (by kernel_rfl) rfl
  have x68 := hx 68 s68 (by kernel_rfl) rfl
  have x69 := hx 69 s69 (by kernel_rfl) rfl
  have x70 := hx 70 s70 (by kernel_rfl) rfl
  have x71 := hx 71 s71 (by kernel_rfl) rfl
  have x72 := hx 72 s72 (by kernel_rfl) rfl
  have x73 := hx 73 s73 (by kernel_rfl) rfl
  have x74 := hx 74 s74 (by kernel_rfl) rfl
  have x75 := hx 75 s75 (by kernel_rfl) rfl
  have x76 := hx 76 s76 (by kernel_rfl) rfl
  have x77 := hx 77 s77 (by kernel_rfl) rfl
  have x78 := hx 78 s78 (by kernel_rfl) rfl
  have x79 := hx 79 s79 (by kernel_rfl) rfl
  have x80 := hx 80 s80 (by kernel_rfl) rfl
  have x81 := hx 81 s81 (by kernel_rfl) rfl
  have x82 := hx 82 s82 (by kernel_rfl) rfl
  have x83 := hx 83 s83 (by kernel_rfl) rfl
  have x84 := hx 84 s84 (by kernel_rfl) rfl
  have x85 := hx 85 s85 (by kernel_rfl) rfl
  have x86 := hx 86 s86 (by kernel_rfl) rfl
  have x87 : a.tmps.getD 87 undef = lvV Ax cx lx := (hf 0 _ 87 rfl rfl (by decide)).1
  have x88 : a.tmps.getD 88 undef = .bool true := (hf 1 _ 88 rfl rfl (by decide)).1
  have x89 : a.tmps.getD 89 undef = .bool false := (hf 2 _ 89 rfl rfl (by decide)).1
  have x90 : a.tmps.getD 90 undef = .bool false := (hf 3 _ 90 rfl rfl (by decide)).1
  have x91 : a.tmps.getD 91 undef = lvV Ax cx lx := (hf 4 _ 91 rfl rfl (by decide)).1
  have x92 : a.tmps.getD 92 undef = .slice Av nv cv := (hf 5 _ 92 rfl rfl (by decide)).1
  have x93 : a.tmps.getD 93 undef = .int .i64 (valB vs lx) := (hf 6 _ 93 rfl rfl (by decide)).1
  have x94 : a.tmps.getD 94 undef = lvV Al cl ll := (hf 7 _ 94 rfl rfl (by decide)).1
  have x95 : a.tmps.getD 95 undef = .slice Aw nw cw := (hf 8 _ 95 rfl rfl (by decide)).1
  have x96 : a.tmps.getD 96 undef = .int .i64 (valB ws ll) := (hf 9 _ 96 rfl rfl (by decide)).1
  have x97 : a.tmps.getD 97 undef = .bool true := (hf 10 _ 97 rfl rfl (by decide)).1
  have x98 : a.tmps.getD 98 undef = .bool true := (hf 11 _ 98 rfl rfl (by decide)).1
  have x99 : a.tmps.getD 99 undef = .bool true := (hf 12 _ 99 rfl rfl (by decide)).1
  have x100 : a.tmps.getD 100 undef = .bool true := (hf 13 _ 100 rfl rfl (by decide)).1
  have x101 : a.tmps.getD 101 undef = .bool true := (hf 14 _ 101 rfl rfl (by decide)).1
  have hl : a.tmps = (s0 :: s1 :: s2 :: (.pointer (some ⟨b, 0, none⟩) : Value) :: s4 :: s5 :: (.bool true : Value) :: (.slice Av nv cv : Value) :: s8 :: s9 :: (.slice Aw nw cw : Value) :: s11 :: s12 :: s13 :: (.pointer (some ⟨p, 0, none⟩) : Value) :: s15 :: s16 :: s17 :: s18 :: s19 :: s20 :: s21 :: s22 :: s23 :: s24 :: s25 :: s26 :: s27 :: s28 :: s29 :: s30 :: s31 :: s32 :: s33 :: s34 :: s35 :: s36 :: s37 :: s38 :: s39 :: s40 :: s41 :: s42 :: s43 :: s44 :: s45 :: s46 :: s47 :: s48 :: s49 :: s50 :: s51 :: s52 :: s53 :: s54 :: s55 :: s56 :: s57 :: s58 :: s59 :: s60 :: s61 :: s62 :: s63 :: s64 :: s65 :: s66 :: s67 :: s68 :: s69 :: s70 :: s71 :: s72 :: s73 :: s74 :: s75 :: s76 :: s77 :: s78 :: s79 :: s80 :: s81 :: s82 :: s83 :: s84 :: s85 :: s86 :: (lvV Ax cx lx : Value) :: (.bool true : Value) :: (.bool false : Value) :: (.bool false : Value) :: (lvV Ax cx lx : Value) :: (.slice Av nv cv : Value) :: (.int .i64 (valB vs lx) : Value) :: (lvV Al cl ll : Value) :: (.slice Aw nw cw : Value) :: (.int .i64 (valB ws ll) : Value) :: (.bool true : Value) :: (.bool true : Value) :: (.bool true : Value) :: (.bool true : Value) :: (.bool true : Value) :: ([] : List Value)).toArray := by
    have h := lit a.tmps 102 hs
    have e : ((List.range 102).map (fun i => a.tmps.getD i undef)).toArray = ((a.tmps.getD 0 undef : Value) :: (a.tmps.getD 1 undef : Value) :: (a.tmps.getD 2 undef : Value) :: (a.tmps.getD 3 undef : Value) :: (a.tmps.getD 4 undef : Value) :: (a.tmps.getD 5 undef : Value) :: (a.tmps.getD 6 undef : Value) :: (a.tmps.getD 7 undef : Value) :: (a.tmps.getD 8 undef : Value) :: (a.tmps.getD 9 undef : Value) :: (a.tmps.getD 10 undef : Value) :: (a.tmps.getD 11 undef : Value) :: (a.tmps.getD 12 undef : Value) :: (a.tmps.getD 13 undef : Value) :: (a.tmps.getD 14 undef : Value) :: (a.tmps.getD 15 undef : Value) :: (a.tmps.getD 16 undef : Value) :: (a.tmps.getD 17 undef : Value) :: (a.tmps.getD 18 undef : Value) :: (a.tmps.getD 19 undef : Value) :: (a.tmps.getD 20 undef : Value) :: (a.tmps.getD 21 undef : Value) :: (a.tmps.getD 22 undef : Value) :: (a.tmps.getD 23 undef : Value) :: (a.tmps.getD 24 undef : Value) :: (a.tmps.getD 25 undef : Value) :: (a.tmps.getD 26 undef : Value) :: (a.tmps.getD 27 undef : Value) :: (a.tmps.getD 28 undef : Value) :: (a.tmps.getD 29 undef : Value) :: (a.tmps.getD 30 undef : Value) :: (a.tmps.getD 31 undef : Value) :: (a.tmps.getD 32 undef : Value) :: (a.tmps.getD 33 undef : Value) :: (a.tmps.getD 34 undef : Value) :: (a.tmps.getD 35 undef : Value) :: (a.tmps.getD 36 undef : Value) :: (a.tmps.getD 37 undef : Value) :: (a.tmps.getD 38 undef : Value) :: (a.tmps.getD 39 undef : Value) :: (a.tmps.getD 40 undef : Value) :: (a.tmps.getD 41 undef : Value) :: (a.tmps.getD 42 undef : Value) :: (a.tmps.getD 43 undef : Value) :: (a.tmps.getD 44 undef : Value) :: (a.tmps.getD 45 undef : Value) :: (a.tmps.getD 46 undef : Value) :: (a.tmps.getD 47 undef : Value) :: (a.tmps.getD 48 undef : Value) :: (a.tmps.getD 49 undef : Value) :: (a.tmps.getD 50 undef : Value) :: (a.tmps.getD 51 undef : Value) :: (a.tmps.getD 52 undef : Value) :: (a.tmps.getD 53 undef : Value) :: (a.tmps.getD 54 undef : Value) :: (a.tmps.getD 55 undef : Value) :: (a.tmps.getD 56 undef : Value) :: (a.tmps.getD 57 undef : Value) :: (a.tmps.getD 58 undef : Value) :: (a.tmps.getD 59 undef : Value) :: (a.tmps.getD 60 undef : Value) :: (a.tmps.getD 61 undef : Value) :: (a.tmps.getD 62 undef : Value) :: (a.tmps.getD 63 undef : Value) :: (a.tmps.getD 64 undef : Value) :: (a.tmps.getD 65 undef : Value) :: (a.tmps.getD 66 undef : Value) :: (a.tmps.getD 67 undef : Value) :: (a.tmps.getD 68 undef : Value) :: (a.tmps.getD 69 undef : Value) :: (a.tmps.getD 70 undef : Value) :: (a.tmps.getD 71 undef : Value) :: (a.tmps.getD 72 undef : Value) :: (a.tmps.getD 73 undef : Value) :: (a.tmps.getD 74 undef : Value) :: (a.tmps.getD 75 undef : Value) :: (a.tmps.getD 76 undef : Value) :: (a.tmps.getD 77 undef : Value) :: (a.tmps.getD 78 undef : Value) :: (a.tmps.getD 79 undef : Value) :: (a.tmps.getD 80 undef : Value) :: (a.tmps.getD 81 undef : Value) :: (a.tmps.getD 82 undef : Value) :: (a.tmps.getD 83 undef : Value) :: (a.tmps.getD 84 undef : Value) :: (a.tmps.getD 85 undef : Value) :: (a.tmps.getD 86 undef : Value) :: (a.tmps.getD 87 undef : Value) :: (a.tmps.getD 88 undef : Value) :: (a.tmps.getD 89 undef : Value) :: (a.tmps.getD 90 undef : Value) :: (a.tmps.getD 91 undef : Value) :: (a.tmps.getD 92 undef : Value) :: (a.tmps.getD 93 undef : Value) :: (a.tmps.getD 94 undef : Value) :: (a.tmps.getD 95 undef : Value) :: (a.tmps.getD 96 undef : Value) :: (a.tmps.getD 97 undef : Value) :: (a.tmps.getD 98 undef : Value) :: (a.tmps.getD 99 undef : Value) :: (a.tmps.getD 100 undef : Value) :: (a.tmps.getD 101 undef : Value) :: ([] : List Value)).toArray := rfl
    rw [e, x0, x1, x2, x3, x4, x5, x6, x7, x8, x9, x10, x11, x12, x13, x14, x15, x16, x17, x18, x19, x20, x21, x22, x23, x24, x25, x26, x27, x28, x29, x30, x31, x32, x33, x34, x35, x36, x37, x38, x39, x40, x41, x42, x43, x44, x45, x46, x47, x48, x49, x50, x51, x52, x53, x54, x55, x56, x57, x58, x59, x60, x61, x62, x63, x64, x65, x66, x67, x68, x69, x70, x71, x72, x73, x74, x75, x76, x77, x78, x79, x80, x81, x82, x83, x84, x85, x86, x87, x88, x89, x90, x91, x92, x93, x94, x95, x96, x97, x98, x99, x100, x101] at h
    exact h
  obtain ⟨tmps, defers⟩ := a
  obtain rfl : defers = [] := hd
  have hl' : tmps = _ := hl
  rw [hl']
  have hb' := est2_chg hb
  exact hend w' ⟨hb'.os, hb'.tape, hb'.output, hb'.size, hb'.block⟩

def pu0_F (w0 : World) (p b : Nat) (Ax Al Av Aw : Option Addr) (cx cl nv cv nw cw : Nat) (lx ll : Lv) (vs ws : List Int) : Nat → (Nat → Value) → Value → World → (Nat → Prop) → Prop := fun rix => match rix with
  | 0 => fun _ v _ _ => v = lvV Ax cx lx
  | 1 => fun _ v _ _ => v = .bool false
  | 2 => fun _ v _ _ => v = .bool true
  | 3 => fun _ v _ _ => v = .bool true
  | 4 => fun _ v _ _ => v = undef
  | 5 => fun _ v _ _ => v = undef
  | 6 => fun _ v _ _ => v = undef
  | 7 => fun _ v _ _ => v = undef
  | 8 => fun _ v _ _ => v = undef
  | 9 => fun _ v _ _ => v = undef
  | 10 => fun _ v _ _ => v = undef
  | 11 => fun _ v _ _ => v = .bool true
  | 12 => fun _ v _ _ => v = .bool true
  | 13 => fun _ v _ _ => v = .bool true
  | 14 => fun _ v _ _ => v = .bool true
  | 15 => fun _ v _ _ => v = .bool true
  | _ => fun _ _ _ _ => True
def pu0_C : Nat → List Nat := fun rix => match rix with
  | _ => []
theorem pu0_nw3 : nwB pu1_ops.toArray 3 = true := by kernel_rfl
theorem pu0_nw7 : nwB pu1_ops.toArray 7 = true := by kernel_rfl
theorem pu0_nw10 : nwB pu1_ops.toArray 10 = true := by kernel_rfl
theorem pu0_nw14 : nwB pu1_ops.toArray 14 = true := by kernel_rfl
set_option maxRecDepth 100000 in
set_option maxHeartbeats 8000000 in
theorem pu0_obs (w0 : World) (p b : Nat) (Ax Al Av Aw : Option Addr) (cx cl nv cv nw cw : Nat) (lx ll : Lv) (vs ws : List Int) (hxx : w0.heap[p]? = some (.cells #[.int .i64 lx.kind, .int .i64 lx.num, .slice Ax lx.kids.length cx] 24 (0, 0))) (hinx : LvS w0 (fun k => k < w0.heap.size) Ax cx lx) (hxl : w0.heap[b]? = some (.cells #[.int .i64 ll.kind, .int .i64 ll.num, .slice Al ll.kids.length cl] 24 (0, 0))) (hinl : LvS w0 (fun k => k < w0.heap.size) Al cl ll) (hv : ReadsInt w0 .i64 Av nv vs) (hw : ReadsInt w0 .i64 Aw nw ws) (hsx : soundB lx = false) (Q : Exit → Act → World → Prop) (a0 : Act) (hi3 : a0.tmps.getD 3 undef = .pointer (some ⟨b, 0, none⟩)) (hi7 : a0.tmps.getD 7 undef = .slice Av nv cv) (hi10 : a0.tmps.getD 10 undef = .slice Aw nw cw) (hi14 : a0.tmps.getD 14 undef = .pointer (some ⟨p, 0, none⟩)) :
    ObsE Try.prog pu1_ops.toArray Q (est2 0 0 (fun _ => False) (fun _ => False)) pu0_C (pu0_F w0 p b Ax Al Av Aw cx cl nv cv nw cw lx ll vs ws) a0 w0 pu1_ops.toArray.toList 0 := by
  have nw3 := pu0_nw3
  have nw7 := pu0_nw7
  have nw10 := pu0_nw10
  have nw14 := pu0_nw14
  refine ⟨?_, ?_, ?_, ?_, ?_, ?_, ?_, ?_, ?_, ?_, ?_, ?_, ?_, ?_, ?_, ?_, trivial⟩
  · refine ⟨⟨fun τ => stableE_det _, leans_not⟩, ?_⟩
    intro a w O hk
    have e14 : a.eval (.tmp 14) = .pointer (some ⟨p, 0, none⟩) := (hk.init 14 (initialB_of_nw nw14)).trans hi14
    have x14 := hk.world.still hxx (fun ⟨_, h⟩ => h.elim And.right And.right)
    exact obE_loadRow rfl e14 x14 Try.underlying24 rfl (by kernel_rfl) (wanted_none rfl) rfl
  · refine ⟨⟨fun τ => stableE_det _, leans_not⟩, ?_⟩
    intro a w O hk
    have e87 : a.eval (.tmp 87) = lvV Ax cx lx := hk.fact 0 _ 87 rfl rfl rfl rfl
    exact obE_callV #[lvV Ax cx lx] rfl rfl rfl rfl (by simp only [List.map_cons, List.map_nil]; rw [e87]) (wanted_none rfl) (by have h := refSound_calls Ax cx lx w (LvS.all (LvS.same hinx (fun k hk' _ => hk.fix k ((fun k hk' => est2_fix hk' (fun h => h) (fun h => h)) k hk')))); rwa [hsx] at h)
  · refine ⟨⟨fun τ => stableE_det _, leans_not⟩, ?_⟩
    intro a w O hk
    have e88 : a.eval (.tmp 88) = .bool false := hk.fact 1 _ 88 rfl rfl rfl rfl
    have x14 := hk.world.still hxx (fun ⟨_, h⟩ => h.elim And.right And.right)
    have x3 := hk.world.still hxl (fun ⟨_, h⟩ => h.elim And.right And.right)
    exact obE_run (wanted_none rfl) (by unfold execOp; simp only []; rw [e88]; go_simp) rfl
  · refine ⟨⟨fun τ => stableE_det _, leans_not⟩, ?_⟩
    intro a w O hk
    have e89 : a.eval (.tmp 89) = .bool true := hk.fact 2 _ 89 rfl rfl rfl rfl
    exact toE (ob_move rfl e89 (wanted_none rfl) rfl)
  · refine ⟨⟨fun τ => stableE_det _, leans_not⟩, ?_⟩
    intro a w O hk
    have e14 : a.eval (.tmp 14) = .pointer (some ⟨p, 0, none⟩) := (hk.init 14 (initialB_of_nw nw14)).trans hi14
    have e90 : a.eval (.tmp 90) = .bool true := hk.fact 3 _ 90 rfl rfl rfl rfl
    exact toE (ob_skip (unwanted_of rfl rfl rfl e90 (by decide)) rfl)
  · refine ⟨⟨fun τ => stableE_det _, leans_not⟩, ?_⟩
    intro a w O hk
    have e7 : a.eval (.tmp 7) = .slice Av nv cv := (hk.init 7 (initialB_of_nw nw7)).trans hi7
    have e90 : a.eval (.tmp 90) = .bool true := hk.fact 3 _ 90 rfl rfl rfl rfl
    exact toE (ob_skip (unwanted_of rfl rfl rfl e90 (by decide)) rfl)
  · refine ⟨⟨fun τ => stableE_det _, leans_not⟩, ?_⟩
    intro a w O hk
    have e91 : a.eval (.tmp 91) = undef := hk.fact 4 _ 91 rfl rfl rfl rfl
    have e92 : a.eval (.tmp 92) = undef := hk.fact 5 _ 92 rfl rfl rfl rfl
    have e90 : a.eval (.tmp 90) = .bool true := hk.fact 3 _ 90 rfl rfl rfl rfl
    exact toE (ob_skip (unwanted_of rfl rfl rfl e90 (by decide)) rfl)
  · refine ⟨⟨fun τ => stableE_det _, leans_not⟩, ?_⟩
    intro a w O hk
    have e3 : a.eval (.tmp 3) = .pointer (some ⟨b, 0, none⟩) := (hk.init 3 (initialB_of_nw nw3)).trans hi3
    have e90 : a.eval (.tmp 90) = .bool true := hk.fact 3 _ 90 rfl rfl rfl rfl
    exact toE (ob_skip (unwanted_of rfl rfl rfl e90 (by decide)) rfl)
  · refine ⟨⟨fun τ => stableE_det _, leans_not⟩, ?_⟩
    intro a w O hk
    have e10 : a.eval (.tmp 10) = .slice Aw nw cw := (hk.init 10 (initialB_of_nw nw10)).trans hi10
    have e90 : a.eval (.tmp 90) = .bool true := hk.fact 3 _ 90 rfl rfl rfl rfl
    exact toE (ob_skip (unwanted_of rfl rfl rfl e90 (by decide)) rfl)
  · refine ⟨⟨fun τ => stableE_det _, leans_not⟩, ?_⟩
    intro a w O hk
    have e94 : a.eval (.tmp 94) = undef := hk.fact 7 _ 94 rfl rfl rfl rfl
    have e95 : a.eval (.tmp 95) = undef := hk.fact 8 _ 95 rfl rfl rfl rfl
    have e90 : a.eval (.tmp 90) = .bool true := hk.fact 3 _ 90 rfl rfl rfl rfl
    exact toE (ob_skip (unwanted_of rfl rfl rfl e90 (by decide)) rfl)
  · refine ⟨⟨fun τ => stableE_det _, leans_not⟩, ?_⟩
    intro a w O hk
    have e93 : a.eval (.tmp 93) = undef := hk.fact 6 _ 93 rfl rfl rfl rfl
    have e96 : a.eval (.tmp 96) = undef := hk.fact 9 _ 96 rfl rfl rfl rfl
    have e90 : a.eval (.tmp 90) = .bool true := hk.fact 3 _ 90 rfl rfl rfl rfl
    exact toE (ob_skip (unwanted_of rfl rfl rfl e90 (by decide)) rfl)
  · refine ⟨⟨fun τ => stableE_det _, leans_not⟩, ?_⟩
    intro a w O hk
    have e90 : a.eval (.tmp 90) = .bool true := hk.fact 3 _ 90 rfl rfl rfl rfl
    have e97 : a.eval (.tmp 97) = undef := hk.fact 10 _ 97 rfl rfl rfl rfl
    exact toE (ob_pick rfl e90 rfl (wanted_none rfl) rfl)
  · refine ⟨⟨fun τ => stableE_det _, leans_not⟩, ?_⟩
    intro a w O hk
    have e98 : a.eval (.tmp 98) = .bool true := hk.fact 11 _ 98 rfl rfl rfl rfl
    exact toE (ob_move rfl e98 (wanted_none rfl) rfl)
  · refine ⟨⟨fun τ => stableE_det _, leans_not⟩, ?_⟩
    intro a w O hk
    have e99 : a.eval (.tmp 99) = .bool true := hk.fact 12 _ 99 rfl rfl rfl rfl
    exact obE_awake rfl (wanted_of rfl rfl rfl e99)
  · refine ⟨⟨fun τ => stableE_det _, leans_not⟩, ?_⟩
    intro a w O hk
    have e99 : a.eval (.tmp 99) = .bool true := hk.fact 12 _ 99 rfl rfl rfl rfl
    have e100 : a.eval (.tmp 100) = .bool true := hk.fact 13 _ 100 rfl rfl rfl rfl
    exact toE (ob_pick rfl e99 e100 (wanted_none rfl) rfl)
  · refine ⟨⟨fun τ => stableE_det _, leans_not⟩, ?_⟩
    intro a w O hk
    have e101 : a.eval (.tmp 101) = .bool true := hk.fact 14 _ 101 rfl rfl rfl rfl
    exact toE (ob_assign rfl e101 (wanted_none rfl) rfl)
set_option maxRecDepth 100000 in
set_option maxHeartbeats 8000000 in
theorem pu0_region {Q : Exit → Act → World → Prop} {id : Nat} (w0 : World) (p b : Nat) (Ax Al Av Aw : Option Addr) (cx cl nv cv nw cw : Nat) (lx ll : Lv) (vs ws : List Int) {s0 s1 s2 s4 s5 s6 s8 s9 s11 s12 s13 s15 s16 s17 s18 s19 s20 s21 s22 s23 s24 s25 s26 s27 s28 s29 s30 s31 s32 s33 s34 s35 s36 s37 s38 s39 s40 s41 s42 s43 s44 s45 s46 s47 s48 s49 s50 s51 s52 s53 s54 s55 s56 s57 s58 s59 s60 s61 s62 s63 s64 s65 s66 s67 s68 s69 s70 s71 s72 s73 s74 s75 s76 s77 s78 s79 s80 s81 s82 s83 s84 s85 s86 s87 s88 s89 s90 s91 s92 s93 s94 s95 s96 s97 s98 s99 s100 s101 : Value} (hxx : w0.heap[p]? = some (.cells #[.int .i64 lx.kind, .int .i64 lx.num, .slice Ax lx.kids.length cx] 24 (0, 0))) (hinx : LvS w0 (fun k => k < w0.heap.size) Ax cx lx) (hxl : w0.heap[b]? = some (.cells #[.int .i64 ll.kind, .int .i64 ll.num, .slice Al ll.kids.length cl] 24 (0, 0))) (hinl : LvS w0 (fun k => k < w0.heap.size) Al cl ll) (hv : ReadsInt w0 .i64 Av nv vs) (hw : ReadsInt w0 .i64 Aw nw ws) (hsx : soundB lx = false)
    (hend : ∀ (w' : World), Chg (fun k => False ∨ False) w0 w' → Q .normal { tmps := (s0 :: s1 :: s2 :: (.pointer (some ⟨b, 0, none⟩) : Value) :: s4 :: s5 :: (.bool true : Value) :: (.slice Av nv cv : Value) :: s8 :: s9 :: (.slice Aw nw cw : Value) :: s11 :: s12 :: s13 :: (.pointer (some ⟨p, 0, none⟩) : Value) :: s15 :: s16 :: s17 :: s18 :: s19 :: s20 :: s21 :: s22 :: s23 :: s24 :: s25 :: s26 :: s27 :: s28 :: s29 :: s30 :: s31 :: s32 :: s33 :: s34 :: s35 :: s36 :: s37 :: s38 :: s39 :: s40 :: s41 :: s42 :: s43 :: s44 :: s45 :: s46 :: s47 :: s48 :: s49 :: s50 :: s51 :: s52 :: s53 :: s54 :: s55 :: s56 :: s57 :: s58 :: s59 :: s60 :: s61 :: s62 :: s63 :: s64 :: s65 :: s66 :: s67 :: s68 :: s69 :: s70 :: s71 :: s72 :: s73 :: s74 :: s75 :: s76 :: s77 :: s78 :: s79 :: s80 :: s81 :: s82 :: s83 :: s84 :: s85 :: s86 :: (lvV Ax cx lx : Value) :: (.bool false : Value) :: (.bool true : Value) :: (.bool true : Value) :: undef :: undef :: undef :: undef :: undef :: undef :: undef :: (.bool true : Value) :: (.bool true : Value) :: (.bool true : Value) :: (.bool true : Value) :: ([] : List Value)).toArray, defers := [] } w') :
    (Code.region id pu1_ops.toArray true).wp Try.prog Q { tmps := (s0 :: s1 :: s2 :: (.pointer (some ⟨b, 0, none⟩) : Value) :: s4 :: s5 :: s6 :: (.slice Av nv cv : Value) :: s8 :: s9 :: (.slice Aw nw cw : Value) :: s11 :: s12 :: s13 :: (.pointer (some ⟨p, 0, none⟩) : Value) :: s15 :: s16 :: s17 :: s18 :: s19 :: s20 :: s21 :: s22 :: s23 :: s24 :: s25 :: s26 :: s27 :: s28 :: s29 :: s30 :: s31 :: s32 :: s33 :: s34 :: s35 :: s36 :: s37 :: s38 :: s39 :: s40 :: s41 :: s42 :: s43 :: s44 :: s45 :: s46 :: s47 :: s48 :: s49 :: s50 :: s51 :: s52 :: s53 :: s54 :: s55 :: s56 :: s57 :: s58 :: s59 :: s60 :: s61 :: s62 :: s63 :: s64 :: s65 :: s66 :: s67 :: s68 :: s69 :: s70 :: s71 :: s72 :: s73 :: s74 :: s75 :: s76 :: s77 :: s78 :: s79 :: s80 :: s81 :: s82 :: s83 :: s84 :: s85 :: s86 :: s87 :: s88 :: s89 :: s90 :: s91 :: s92 :: s93 :: s94 :: s95 :: s96 :: s97 :: s98 :: s99 :: s100 :: s101 :: ([] : List Value)).toArray, defers := [] } w0 := by
  refine wp_region_est (by kernel_rfl) (est2 0 0 (fun _ => False) (fun _ => False)) pu0_C (pu0_F w0 p b Ax Al Av Aw cx cl nv cv nw cw lx ll vs ws) (est2_dis (fun _ h _ => h)) (est2_range (fun _ h => h.elim) (fun _ h => h.elim)) (by rfl) (by kernel_rfl) (pu0_obs w0.drew p b Ax Al Av Aw cx cl nv cv nw cw lx ll vs ws hxx (LvS.later hinx (below_drew (Below.refl _ _))) hxl (LvS.later hinl (below_drew (Below.refl _ _))) (hv.below (below_drew (Below.refl _ _))) (hw.below (below_drew (Below.refl _ _))) hsx _ _ rfl rfl rfl rfl) ?_
  intro a w' O hd hs hb hf hf2 ha hsame
  have hx : ∀ (qi : Nat) (qv : Value), nwB pu1_ops.toArray qi = true → (s0 :: s1 :: s2 :: (.pointer (some ⟨b, 0, none⟩) : Value) :: s4 :: s5 :: s6 :: (.slice Av nv cv : Value) :: s8 :: s9 :: (.slice Aw nw cw : Value) :: s11 :: s12 :: s13 :: (.pointer (some ⟨p, 0, none⟩) : Value) :: s15 :: s16 :: s17 :: s18 :: s19 :: s20 :: s21 :: s22 :: s23 :: s24 :: s25 :: s26 :: s27 :: s28 :: s29 :: s30 :: s31 :: s32 :: s33 :: s34 :: s35 :: s36 :: s37 :: s38 :: s39 :: s40 :: s41 :: s42 :: s43 :: s44 :: s45 :: s46 :: s47 :: s48 :: s49 :: s50 :: s51 :: s52 :: s53 :: s54 :: s55 :: s56 :: s57 :: s58 :: s59 :: s60 :: s61 :: s62 :: s63 :: s64 :: s65 :: s66 :: s67 :: s68 :: s69 :: s70 :: s71 :: s72 :: s73 :: s74 :: s75 :: s76 :: s77 :: s78 :: s79 :: s80 :: s81 :: s82 :: s83 :: s84 :: s85 :: s86 :: s87 :: s88 :: s89 :: s90 :: s91 :: s92 :: s93 :: s94 :: s95 :: s96 :: s97 :: s98 :: s99 :: s100 :: s101 :: ([] : List Value)).toArray.getD qi undef = qv → a.tmps.getD qi undef = qv := fun qi qv h e => (hsame qi (nwB.spec h)).trans e
  have x0 := hx 0 s0 (by kernel_rfl) rfl
  have x1 := hx 1 s1 (by kernel_rfl) rfl
  have x2 := hx 2 s2 (by kernel_rfl) rfl
  have x3 := hx 3 (.pointer (some ⟨b, 0, none⟩)) (by kernel_rfl) rfl
  have x4 := hx 4 s4 (by kernel_rfl) rfl
  have x5 := hx 5 s5 (by kernel_rfl) rfl
  have x6 : a.tmps.getD 6 undef = .bool true := (hf 15 _ 6 rfl rfl (by decide)).1
  have x7 := hx 7 (.slice Av nv cv) (by kernel_rfl) rfl
  have x8 := hx 8 s8 (by kernel_rfl) rfl
  have x9 := hx 9 s9 (by kernel_rfl) rfl
  have x10 := hx 10 (.slice Aw nw cw) (by kernel_rfl) rfl
  have x11 := hx 11 s11 (by kernel_rfl) rfl
  have x12 := hx 12 s12 (by kernel_rfl) rfl
  have x13 := hx 13 s13 (by kernel_rfl) rfl
  have x14 := hx 14 (.pointer (some ⟨p, 0, none⟩)) (by kernel_rfl) rfl
  have x15 := hx 15 s15 (by kernel_rfl) rfl
  have x16 := hx 16 s16 (by kernel_rfl) rfl
  have x17 := hx 17 s17 (by kernel_rfl) rfl
  have x18 := hx 18 s18 (by kernel_rfl) rfl
  have x19 := hx 19 s19 (by kernel_rfl) rfl
  have x20 := hx 20 s20 (by kernel_rfl) rfl
  have x21 := hx 21 s21 (by kernel_rfl) rfl
  have x22 := hx 22 s22 (by kernel_rfl) rfl
  have x23 := hx 23 s23 (by kernel_rfl) rfl
  have x24 := hx 24 s24 (by kernel_rfl) rfl
  have x25 := hx 25 s25 (by kernel_rfl) rfl
  have x26 := hx 26 s26 (by kernel_rfl) rfl
  have x27 := hx 27 s27 (by kernel_rfl) rfl
  have x28 := hx 28 s28 (by kernel_rfl) rfl
  have x29 := hx 29 s29 (by kernel_rfl) rfl
  have x30 := hx 30 s30 (by kernel_rfl) rfl
  have x31 := hx 31 s31 (by kernel_rfl) rfl
  have x32 := hx 32 s32 (by kernel_rfl) rfl
  have x33 := hx 33 s33 (by kernel_rfl) rfl
  have x34 := hx 34 s34 (by kernel_rfl) rfl
  have x35 := hx 35 s35 (by kernel_rfl) rfl
  have x36 := hx 36 s36 (by kernel_rfl) rfl
  have x37 := hx 37 s37 (by kernel_rfl) rfl
  have x38 := hx 38 s38 (by kernel_rfl) rfl
  have x39 := hx 39 s39 (by kernel_rfl) rfl
  have x40 := hx 40 s40 (by kernel_rfl) rfl
  have x41 := hx 41 s41 (by kernel_rfl) rfl
  have x42 := hx 42 s42 (by kernel_rfl) rfl
  have x43 := hx 43 s43 (by kernel_rfl) rfl
  have x44 := hx 44 s44 (by kernel_rfl) rfl
  have x45 := hx 45 s45 (by kernel_rfl) rfl
  have x46 := hx 46 s46 (by kernel_rfl) rfl
  have x47 := hx 47 s47 (by kernel_rfl) rfl
  have x48 := hx 48 s48 (by kernel_rfl) rfl
  have x49 := hx 49 s49 (by kernel_rfl) rfl
  have x50 := hx 50 s50 (by kernel_rfl) rfl
  have x51 := hx 51 s51 (by kernel_rfl) rfl
  have x52 := hx 52 s52 (by kernel_rfl) rfl
  have x53 := hx 53 s53 (by kernel_rfl) rfl
  have x54 := hx 54 s54 (by kernel_rfl) rfl
  have x55 := hx 55 s55 (by kernel_rfl) rfl
  have x56 := hx 56 s56 (by kernel_rfl) rfl
  have x57 := hx 57 s57 (by kernel_rfl) rfl
  have x58 := hx 58 s58 (by kernel_rfl) rfl
  have x59 := hx 59 s59 (by kernel_rfl) rfl
  have x60 := hx 60 s60 (by kernel_rfl) rfl
  have x61 := hx 61 s61 (by kernel_rfl) rfl
  have x62 := hx 62 s62 (by kernel_rfl) rfl
  have x63 := hx 63 s63 (by kernel_rfl) rfl
  have x64 := hx 64 s64 (by kernel_rfl) rfl
  have x65 := hx 65 s65 (by kernel_rfl) rfl
  have x66 := hx 66 s66 (by kernel_rfl) rfl
  have x67 := hx 67 s67 (by kernel_rfl) rfl
  have x68 := hx 68 s68 (by kernel_rfl) rfl
  have x69 := hx 69 s69 (by kernel_rfl) rfl
  have x70 := hx 70 s70 (by kernel_rfl) rfl
  have x71 := hx 71 s71 (by kernel_rfl) rfl
  have x72 := hx 72 s72 (by kernel_rfl) rfl
  have x73 := hx 73 s73 (by kernel_rfl) rfl
  have x74 := hx 74 s74 (by kernel_rfl) rfl
  have x75 := hx 75 s75 (by kernel_rfl) rfl
  have x76 := hx 76 s76 (by kernel_rfl) rfl
  have x77 := hx 77 s77 (by kernel_rfl) rfl
  have x78 := hx 78 s78 (by kernel_rfl) rfl
  have x79 := hx 79 s79 (by kernel_rfl) rfl
  have x80 := hx 80 s80 (by kernel_rfl) rfl
  have x81 := hx 81 s81 (by kernel_rfl) rfl
  have x82 := hx 82 s82 (by kernel_rfl) rfl
  have x83 := hx 83 s83 (by kernel_rfl) rfl
  have x84 := hx 84 s84 (by kernel_rfl) rfl
  have x85 := hx 85 s85 (by kernel_rfl) rfl
  have x86 := hx 86 s86 (by kernel_rfl) rfl
  have x87 : a.tmps.getD 87 undef = lvV Ax cx lx := (hf 0 _ 87 rfl rfl (by decide)).1
  have x88 : a.tmps.getD 88 undef = .bool false := (hf 1 _ 88 rfl rfl (by decide)).1
  have x89 : a.tmps.getD 89 undef = .bool true := (hf 2 _ 89 rfl rfl (by decide)).1
  have x90 : a.tmps.getD 90 undef = .bool true := (hf 3 _ 90 rfl rfl (by decide)).1
  have x91 : a.tmps.getD 91 undef = undef := (hf 4 _ 91 rfl rfl (by decide)).1
  have x92 : a.tmps.getD 92 undef = undef := (hf 5 _ 92 rfl rfl (by decide)).1
  have x93 : a.tmps.getD 93 undef = undef := (hf 6 _ 93 rfl rfl (by decide)).1
  have x94 : a.tmps.getD 94 undef = undef := (hf 7 _ 94 rfl rfl (by decide)).1
  have x95 : a.tmps.getD 95 undef = undef := (hf 8 _ 95 rfl rfl (by decide)).1
  have x96 : a.tmps.getD 96 undef = undef := (hf 9 _ 96 rfl rfl (by decide)).1
  have x97 : a.tmps.getD 97 undef = undef := (hf 10 _ 97 rfl rfl (by decide)).1
  have x98 : a.tmps.getD 98 undef = .bool true := (hf 11 _ 98 rfl rfl (by decide)).1
  have x99 : a.tmps.getD 99 undef = .bool true := (hf 12 _ 99 rfl rfl (by decide)).1
  have x100 : a.tmps.getD 100 undef = .bool true := (hf 13 _ 100 rfl rfl (by decide)).1
  have x101 : a.tmps.getD 101 undef = .bool true := (hf 14 _ 101 rfl rfl (by decide)).1
  have hl : a.tmps = (s0 :: s1 :: s2 :: (.pointer (some ⟨b, 0, none⟩) : Value) :: s4 :: s5 :: (.bool true : Value) :: (.slice Av nv cv : Value) :: s8 :: s9 :: (.slice Aw nw cw : Value) :: s11 :: s12 :: s13 :: (.pointer (some ⟨p, 0, none⟩) : Value) :: s15 :: s16 :: s17 :: s18 :: s19 :: s20 :: s21 :: s22 :: s23 :: s24 :: s25 :: s26 :: s27 :: s28 :: s29 :: s30 :: s31 :: s32 :: s33 :: s34 :: s35 :: s36 :: s37 :: s38 :: s39 :: s40 :: s41 :: s42 :: s43 :: s44 :: s45 :: s46 :: s47 :: s48 :: s49 :: s50 :: s51 :: s52 :: s53 :: s54 :: s55 :: s56 :: s57 :: s58 :: s59 :: s60 :: s61 :: s62 :: s63 :: s64 :: s65 :: s66 :: s67 :: s68 :: s69 :: s70 :: s71 :: s72 :: s73 :: s74 :: s75 :: s76 :: s77 :: s78 :: s79 :: s80 :: s81 :: s82 :: s83 :: s84 :: s85 :: s86 :: (lvV Ax cx lx : Value) :: (.bool false : Value) :: (.bool true : Value) :: (.bool true : Value) :: undef :: undef :: undef :: undef :: undef :: undef :: undef :: (.bool true : Value) :: (.bool true : Value) :: (.bool true : Value) :: (.bool true : Value) :: ([] : List Value)).toArray := by
    have h := lit a.tmps 102 hs
    have e : ((List.range 102).map (fun i => a.tmps.getD i undef)).toArray = ((a.tmps.getD 0 undef : Value) :: (a.tmps.getD 1 undef : Value) :: (a.tmps.getD 2 undef : Value) :: (a.tmps.getD 3 undef : Value) :: (a.tmps.getD 4 undef : Value) :: (a.tmps.getD 5 undef : Value) :: (a.tmps.getD 6 undef : Value) :: (a.tmps.getD 7 undef : Value) :: (a.tmps.getD 8 undef : Value) :: (a.tmps.getD 9 undef : Value) :: (a.tmps.getD 10 undef : Value) :: (a.tmps.getD 11 undef : Value) :: (a.tmps.getD 12 undef : Value) :: (a.tmps.getD 13 undef : Value) :: (a.tmps.getD 14 undef : Value) :: (a.tmps.getD 15 undef : Value) :: (a.tmps.getD 16 undef : Value) :: (a.tmps.getD 17 undef : Value) :: (a.tmps.getD 18 undef : Value) :: (a.tmps.getD 19 undef : Value) :: (a.tmps.getD 20 undef : Value) :: (a.tmps.getD 21 undef : Value) :: (a.tmps.getD 22 undef : Value) :: (a.tmps.getD 23 undef : Value) :: (a.tmps.getD 24 undef : Value) :: (a.tmps.getD 25 undef : Value) :: (a.tmps.getD 26 undef : Value) :: (a.tmps.getD 27 undef : Value) :: (a.tmps.getD 28 undef : Value) :: (a.tmps.getD 29 undef : Value) :: (a.tmps.getD 30 undef : Value) :: (a.tmps.getD 31 undef : Value) :: (a.tmps.getD 32 undef : Value) :: (a.tmps.getD 33 undef : Value) :: (a.tmps.getD 34 undef : Value) :: (a.tmps.getD 35 undef : Value) :: (a.tmps.getD 36 undef : Value) :: (a.tmps.getD 37 undef : Value) :: (a.tmps.getD 38 undef : Value) :: (a.tmps.getD 39 undef : Value) :: (a.tmps.getD 40 undef : Value) :: (a.tmps.getD 41 undef : Value) :: (a.tmps.getD 42 undef : Value) :: (a.tmps.getD 43 undef : Value) :: (a.tmps.getD 44 undef : Value) :: (a.tmps.getD 45 undef : Value) :: (a.tmps.getD 46 undef : Value) :: (a.tmps.getD 47 undef : Value) :: (a.tmps.getD 48 undef : Value) :: (a.tmps.getD 49 undef : Value) :: (a.tmps.getD 50 undef : Value) :: (a.tmps.getD 51 undef : Value) :: (a.tmps.getD 52 undef : Value) :: (a.tmps.getD 53 undef : Value) :: (a.tmps.getD 54 undef : Value) :: (a.tmps.getD 55 undef : Value) :: (a.tmps.getD 56 undef : Value) :: (a.tmps.getD 57 undef : Value) :: (a.tmps.getD 58 undef : Value) :: (a.tmps.getD 59 undef : Value) :: (a.tmps.getD 60 undef : Value) :: (a.tmps.getD 61 undef : Value) :: (a.tmps.getD 62 undef : Value) :: (a.tmps.getD 63 undef : Value) :: (a.tmps.getD 64 undef : Value) :: (a.tmps.getD 65 undef : Value) :: (a.tmps.getD 66 undef : Value) :: (a.tmps.getD 67 undef : Value) :: (a.tmps.getD 68 undef : Value) :: (a.tmps.getD 69 undef : Value) :: (a.tmps.getD 70 undef : Value) :: (a.tmps.getD 71 undef : Value) :: (a.tmps.getD 72 undef : Value) :: (a.tmps.getD 73 undef : Value) :: (a.tmps.getD 74 undef : Value) :: (a.tmps.getD 75 undef : Value) :: (a.tmps.getD 76 undef : Value) :: (a.tmps.getD 77 undef : Value) :: (a.tmps.getD 78 undef : Value) :: (a.tmps.getD 79 undef : Value) :: (a.tmps.getD 80 undef : Value) :: (a.tmps.getD 81 undef : Value) :: (a.tmps.getD 82 undef : Value) :: (a.tmps.getD 83 undef : Value) :: (a.tmps.getD 84 undef : Value) :: (a.tmps.getD 85 undef : Value) :: (a.tmps.getD 86 undef : Value) :: (a.tmps.getD 87 undef : Value) :: (a.tmps.getD 88 undef : Value) :: (a.tmps.getD 89 undef : Value) :: (a.tmps.getD 90 undef : Value) :: (a.tmps.getD 91 undef : Value) :: (a.tmps.getD 92 undef : Value) :: (a.tmps.getD 93 undef : Value) :: (a.tmps.getD 94 undef : Value) :: (a.tmps.getD 95 undef : Value) :: (a.tmps.getD 96 undef : Value) :: (a.tmps.getD 97 undef : Value) :: (a.tmps.getD 98 undef : Value) :: (a.tmps.getD 99 undef : Value) :: (a.tmps.getD 100 undef : Value) :: (a.tmps.getD 101 undef : Value) :: ([] : List Value)).toArray := rfl
    rw [e, x0, x1, x2, x3, x4, x5, x6, x7, x8, x9, x10, x11, x12, x13, x14, x15, x16, x17, x18, x19, x20, x21, x22, x23, x24, x25, x26, x27, x28, x29, x30, x31, x32, x33, x34, x35, x36, x37, x38, x39, x40, x41, x42, x43, x44, x45, x46, x47, x48, x49, x50, x51, x52, x53, x54, x55, x56, x57, x58, x59, x60, x61, x62, x63, x64, x65, x66, x67, x68, x69, x70, x71, x72, x73, x74, x75, x76, x77, x78, x79, x80, x81, x82, x83, x84, x85, x86, x87, x88, x89, x90, x91, x92, x93, x94, x95, x96, x97, x98, x99, x100, x101] at h
    exact h
  obtain ⟨tmps, defers⟩ := a
  obtain rfl : defers = [] := hd
  have hl' : tmps = _ := hl
  rw [hl']
  have hb' := est2_chg hb
  exact hend w' ⟨hb'.os, hb'.tape, hb'.output, hb'.size, hb'.block⟩

end Go.Proofs.Ytjlhbaohippidaa

/-! MeansP -/
namespace Go.Proofs.Ytjlhbaohippidaa
open Go.RowKit Go.Proofs.YtjlhbaohippidaaW.PrintWords Go.RegionInvYtjlhbaohippidaa Go.RegionEYtjlhbaohippidaa

theorem val_ge {vs : List Int} {f : Nf} (h0 : NfOk f) : leastN f ≤ valN vs f := by
  have h := (valN_le (vs := vs) (f := f) (b := valN vs f)).1 (Int.le_refl _)
  refine least_le h.1 fun j => ?_
  by_cases h1 : 0 ≤ atP f.2 j
  · have h2 := h.2 j h1
    have h3 := vAt_in vs j
    have h4 := (atP_ok h0.2.2.1 j).2
    omega
  · have := h.1; have := h0.1; omega
theorem val_mono {vs : List Int} {f g : Nf} (hg : NfOk g) (h : leqR f g) : valN vs f ≤ valN vs g := by
  have h1 := (valN_le (vs := vs) (f := g) (b := valN vs g)).1 (Int.le_refl _)
  refine valN_le.2 ⟨Int.le_trans h.2 (val_ge hg), fun i hi => ?_⟩
  have h2 := h.1 i
  have h3 := h1.2 i (by omega)
  omega
theorem val_eqR {vs : List Int} {f g : Nf} (hf : NfOk f) (hg : NfOk g) (h : eqR f g) : valN vs f = valN vs g := by
  have := (eqR_leqR hf hg).1 h
  exact Int.le_antisymm (val_mono hg this.1) (val_mono hf this.2)
theorem means_leq {vs : List Int} {a b : Lv} (ha : soundB a = true) (hb : soundB b = true) (h : leqP a b = true) : valB vs a ≤ valB vs b := by
  rw [valB_yes ha, valB_yes hb]; exact val_mono (sumP_ok hb) ((leqP_iff ha hb).1 h)
theorem means_eq {vs : List Int} {a b : Lv} (ha : soundB a = true) (hb : soundB b = true) (h : eqP a b = true) : valB vs a = valB vs b := by
  rw [valB_yes ha, valB_yes hb]; exact val_eqR (sumP_ok ha) (sumP_ok hb) ((eqP_iff ha hb).1 h)
theorem eqP_leq {a b : Lv} (ha : soundB a = true) (hb : soundB b = true) (h : eqP a b = true) : leqP a b = true :=
  (leqP_iff ha hb).2 ((eqR_leqR (sumP_ok ha) (sumP_ok hb)).1 ((eqP_iff ha hb).1 h)).1
theorem means_red {vs : List Int} {a : Lv} (ha : soundB a = true) (hr : soundB (redP a) = true) : valB vs (redP a) = valB vs a := by
  rw [valB_yes ha, valB_yes hr]; exact val_eqR (sumP_ok hr) (sumP_ok ha) (red_sum ha)
def greatL (n : Nat) (i : Int) : List Int := if i < 0 then List.replicate n 0 else (List.replicate n 0).set i.toNat 34359738368
theorem great_len (n : Nat) (i : Int) : (greatL n i).length = n := by unfold greatL; split <;> simp
theorem great_at (n : Nat) (i : Int) (j : Nat) : vAt (greatL n i) j = if (j : Int) = i ∧ j < n then 34359738368 else 0 := by
  unfold vAt
  rw [great_len]
  by_cases hj : j < n
  · rw [if_pos hj, rd_nat']
    unfold greatL
    by_cases hi : i < 0
    · rw [if_pos hi, if_neg (by omega), List.getD_eq_getElem?_getD, List.getElem?_replicate, if_pos hj]; decide
    · rw [if_neg hi, List.getD_eq_getElem?_getD, List.getElem?_set]
      by_cases he : i.toNat = j
      · rw [if_pos he, if_pos (by simpa using (by omega : i.toNat < n)), if_pos ⟨by omega, hj⟩]; decide
      · rw [if_neg he, if_neg (by omega), List.getElem?_replicate, if_pos hj]; decide
  · rw [if_neg hj, if_neg (by omega)]
theorem means_not {a b : Lv} (ha : soundB a = true) (hb : soundB b = true) (hla : litP a = true) (hlb : litP b = true) (h : leqP a b = false) :
    ∃ i : Int, -1 ≤ i ∧ i < (nfP a).2.length ∧ valB (greatL (nfP a).2.length i) b < valB (greatL (nfP a).2.length i) a := by
  have hf := sumP_ok ha
  have hg := sumP_ok hb
  have sf := sml_sound ha hla
  have sg := sml_sound hb hlb
  rw [nfP_sound ha]
  have hn : ¬ leqR (sumP a) (sumP b) := fun h' => by rw [(leqP_iff ha hb).2 h'] at h; cases h
  obtain ⟨n, hnn⟩ : ∃ n, n = (shortN (sumP a)).2.length := ⟨_, rfl⟩
  rw [← hnn]
  simp only [valB_yes ha, valB_yes hb]
  by_cases hj : ∃ j : Nat, atP (sumP b).2 j < atP (sumP a).2 j
  · obtain ⟨j, hj⟩ := hj
    have hb0 := atP_ge hg j
    have hlt : j < n := by
      by_cases hlt : j < n
      · exact hlt
      · exfalso
        have e := atP_short hf j
        rw [atP_beyond (by omega)] at e
        omega
    refine ⟨j, by omega, by omega, ?_⟩
    have h1 := (valN_le (vs := greatL n j) (f := sumP a) (b := valN (greatL n j) (sumP a))).1 (Int.le_refl _)
    have h2 := h1.2 j (by omega)
    rw [great_at, if_pos ⟨rfl, hlt⟩] at h2
    have h3 := sf.2 j
    have h4 : valN (greatL n j) (sumP b) ≤ 34359738368 + atP (sumP a).2 j - 1 := by
      refine valN_le.2 ⟨by have := sg.1; omega, fun i hi => ?_⟩
      rw [great_at]
      by_cases e : (i : Int) = j ∧ i < n
      · rw [if_pos e]
        obtain rfl : i = j := by omega
        omega
      · rw [if_neg e]
        have := sg.2 i
        omega
    omega
  · have hc : leastN (sumP b) < (sumP a).1 := by
      by_cases hc : leastN (sumP b) < (sumP a).1
      · exact hc
      · exfalso
        apply hn
        refine ⟨fun j => ?_, by omega⟩
        by_cases h1 : atP (sumP a).2 j ≤ atP (sumP b).2 j
        · exact h1
        · exact absurd ⟨j, by omega⟩ hj
    refine ⟨-1, by omega, by omega, ?_⟩
    have h1 := (valN_le (vs := greatL n (-1)) (f := sumP a) (b := valN (greatL n (-1)) (sumP a))).1 (Int.le_refl _)
    have h0 := least_ge (sumP b)
    have hb0 := hg.1
    have h2 : valN (greatL n (-1)) (sumP b) ≤ leastN (sumP b) := by
      refine valN_le.2 ⟨h0, fun i hi => ?_⟩
      rw [great_at, if_neg (by omega)]
      have := least_at (f := sumP b) i (by omega)
      omega
    have := h1.1
    omega
/-- The walk's end: not at most, and yet at no values more. -/
theorem means_end {a b : Lv} (ha : soundB a = true) (hb : soundB b = true) (hla : litP a = true) (hlb : litP b = true) (h : leqP a b = false)
    (hall : ∀ i : Int, -1 ≤ i → i < (nfP a).2.length → valB (greatL (nfP a).2.length i) a ≤ valB (greatL (nfP a).2.length i) b) : False := by
  obtain ⟨i, h0, h1, h2⟩ := means_not ha hb hla hlb h
  have := hall i h0 h1
  omega
end Go.Proofs.Ytjlhbaohippidaa

/-! InstP -/
namespace Go.Proofs.Ytjlhbaohippidaa
open Go.RowKit Go.Proofs.YtjlhbaohippidaaW.PrintWords Go.RegionInvYtjlhbaohippidaa Go.RegionEYtjlhbaohippidaa

def lvAt (vs : List Lv) (n : Int) : Lv := vs.getD n.toNat (.mk 0 0 [])
/-- What the visit of a node does: the sum of what stands for it is laid by. -/
def instF (vs : List Lv) (k n : Int) (fs : List Nf) : Int × List Nf :=
  if k = 2 ∧ n < vs.length then (if soundB (lvAt vs n) = true then (0, fs.set n.toNat (sumP (lvAt vs n))) else (1, fs)) else (0, fs)
mutual
def instP (vs : List Lv) : Lv → List Nf → Int × List Nf
  | .mk k n ks, fs => if (instF vs k n fs).1 ≠ 0 then instF vs k n fs else instKs vs ks (instF vs k n fs).2
def instKs (vs : List Lv) : List Lv → List Nf → Int × List Nf
  | [], fs => (0, fs)
  | x :: r, fs => if (instP vs x fs).1 ≠ 0 then instP vs x fs else instKs vs r (instP vs x fs).2
end
theorem instP_stop {vs : List Lv} {k n : Int} {ks : List Lv} {fs : List Nf} (h : (instF vs k n fs).1 ≠ 0) : instP vs (.mk k n ks) fs = instF vs k n fs := by rw [instP, if_pos h]
theorem instP_go {vs : List Lv} {k n : Int} {ks : List Lv} {fs : List Nf} (h : (instF vs k n fs).1 = 0) : instP vs (.mk k n ks) fs = instKs vs ks (instF vs k n fs).2 := by rw [instP, if_neg (by simpa using h)]
theorem instKs_stop {vs : List Lv} {x : Lv} {r : List Lv} {fs : List Nf} (h : (instP vs x fs).1 ≠ 0) : instKs vs (x :: r) fs = instP vs x fs := by rw [instKs, if_pos h]
theorem instKs_go {vs : List Lv} {x : Lv} {r : List Lv} {fs : List Nf} (h : (instP vs x fs).1 = 0) : instKs vs (x :: r) fs = instKs vs r (instP vs x fs).2 := by rw [instKs, if_neg (by simpa using h)]
theorem instKs_nil (vs : List Lv) (fs : List Nf) : instKs vs [] fs = (0, fs) := by rw [instKs]
theorem instF_len (vs : List Lv) (k n : Int) (fs : List Nf) : (instF vs k n fs).2.length = fs.length := by
  unfold instF; split
  · split <;> simp
  · rfl
mutual
theorem inst_len (vs : List Lv) : (l : Lv) → (fs : List Nf) → (instP vs l fs).2.length = fs.length
  | .mk k n ks, fs => by
    rw [instP]; split
    · exact instF_len _ _ _ _
    · rw [insts_len vs ks, instF_len]
theorem insts_len (vs : List Lv) : (ks : List Lv) → (fs : List Nf) → (instKs vs ks fs).2.length = fs.length
  | [], fs => by rw [instKs]
  | x :: r, fs => by
    rw [instKs]; split
    · exact inst_len vs x fs
    · rw [insts_len vs r, inst_len vs x]
end
/-- What is laid by stays. -/
def Kept (vs : List Lv) (fs fs' : List Nf) : Prop := fs'.length = fs.length ∧ ∀ i : Nat, i < vs.length → fs[i]? = some (sumP (lvAt vs i)) → fs'[i]? = some (sumP (lvAt vs i))
theorem Kept.trans {vs : List Lv} {a b c : List Nf} (h1 : Kept vs a b) (h2 : Kept vs b c) : Kept vs a c := ⟨h2.1.trans h1.1, fun i hi h => h2.2 i hi (h1.2 i hi h)⟩
theorem instF_kept (vs : List Lv) (k n : Int) (fs : List Nf) : Kept vs fs (instF vs k n fs).2 := by
  refine ⟨instF_len _ _ _ _, fun i hi h => ?_⟩
  unfold instF
  split
  · split
    · rw [List.getElem?_set]
      split
      · rename_i h1 h2 h3
        have hlt := (List.getElem?_eq_some_iff.1 h).1
        rw [h3, if_pos hlt]
        have : lvAt vs n = lvAt vs i := by unfold lvAt; rw [h3, Int.toNat_natCast]
        rw [this]
      · exact h
    · exact h
  · exact h
mutual
theorem inst_kept (vs : List Lv) : (l : Lv) → (fs : List Nf) → Kept vs fs (instP vs l fs).2
  | .mk k n ks, fs => by
    rw [instP]; split
    · exact instF_kept _ _ _ _
    · exact (instF_kept vs k n fs).trans (insts_kept vs ks _)
theorem insts_kept (vs : List Lv) : (ks : List Lv) → (fs : List Nf) → Kept vs fs (instKs vs ks fs).2
  | [], fs => by rw [instKs]; exact ⟨rfl, fun _ _ h => h⟩
  | x :: r, fs => by
    rw [instKs]; split
    · exact inst_kept vs x fs
    · exact (inst_kept vs x fs).trans (insts_kept vs r _)
end
/-- All that stands for a variable of the level, in place. -/
theorem inst_sum {vs : List Lv} : ∀ {l : Lv}, Good l → ∀ (fs fs' : List Nf), fs.length = vs.length → (instP vs l fs).1 = 0 → Kept vs (instP vs l fs).2 fs' → ofP fs' l = ofP (vs.map sumP) l := by
  intro l h
  induction h with
  | @mk k n ks h hk ih =>
    intro fs fs' hl h0 hkp
    by_cases hF : (instF vs k n fs).1 = 0
    · rw [instP_go hF] at h0 hkp
      have hl2 : (instF vs k n fs).2.length = vs.length := by rw [instF_len, hl]
      rcases good_cases (.mk h hk) with ⟨rfl, rfl, h1, h2⟩ | ⟨rfl, rfl, h1, h2⟩ | ⟨rfl, x, rfl, h1, h2, -⟩ | ⟨rfl, x, y, rfl, -, -⟩
      · rw [ofP_num, ofP_num]
      · rw [ofP_var, ofP_var]
        rw [instKs_nil] at hkp
        have hlen : fs'.length = vs.length := by rw [hkp.1, hl2]
        unfold varN
        rw [hlen, List.length_map]
        split
        · rename_i hlt
          have hn : n.toNat < vs.length := by omega
          have hset : (instF vs 2 n fs).2[n.toNat]? = some (sumP (lvAt vs (n.toNat : Nat))) := by
            unfold instF at hF ⊢
            rw [if_pos ⟨rfl, hlt⟩] at hF ⊢
            by_cases hs : soundB (lvAt vs n) = true
            · rw [if_pos hs]
              simp only [List.getElem?_set]
              rw [if_pos trivial, if_pos (by omega)]
              have : lvAt vs n = lvAt vs (n.toNat : Nat) := by unfold lvAt; rw [Int.toNat_natCast]
              rw [this]
            · rw [if_neg hs] at hF; exact absurd (show (1 : Int) = 0 from hF) (by decide)
          have := hkp.2 n.toNat hn hset
          rw [List.getD_eq_getElem?_getD, this, List.getD_eq_getElem?_getD, List.getElem?_map, List.getElem?_eq_getElem hn]
          simp only [Option.map_some, Option.getD_some, lvAt, Int.toNat_natCast]
          rw [List.getD_eq_getElem?_getD, List.getElem?_eq_getElem hn]; rfl
        · rfl
      · rw [ofP_succ, ofP_succ]
        rw [instKs] at h0 hkp
        by_cases hx : (instP vs x (instF vs 3 n fs).2).1 = 0
        · rw [if_neg (by simpa using hx), instKs_nil] at h0 hkp
          rw [ih x (by simp) _ fs' hl2 hx hkp]
        · rw [if_pos hx] at h0; exact absurd h0 hx
      · rw [ofP_max, ofP_max]
        rw [instKs] at h0 hkp
        by_cases hx : (instP vs x (instF vs 4 n fs).2).1 = 0
        · rw [if_neg (by simpa using hx), instKs] at h0 hkp
          have hl3 : (instP vs x (instF vs 4 n fs).2).2.length = vs.length := by rw [inst_len, hl2]
          by_cases hy : (instP vs y (instP vs x (instF vs 4 n fs).2).2).1 = 0
          · rw [if_neg (by simpa using hy), instKs_nil] at h0 hkp
            rw [ih x (by simp) _ fs' hl2 hx ((inst_kept vs y _).trans hkp), ih y (by simp) _ fs' hl3 hy hkp]
          · rw [if_pos hy] at h0; exact absurd h0 hy
        · rw [if_pos hx] at h0; exact absurd h0 hx
    · rw [instP_stop hF] at h0; exact absurd h0 hF
/-- What Inst gives. -/
def instL (vs : List Lv) (l : Lv) : Lv := if soundB l = true ∧ (instP vs l (List.replicate vs.length (0, []))).1 = 0 then lvlN (shortN (ofP (vs.map sumP) l)) else .mk 0 0 []
theorem valN_map {vs : List Lv} {at_ : List Int} {inner : List Int} (hs : ∀ u ∈ vs, soundB u = true)
    (hin : ∀ i : Nat, vAt inner i = if i < vs.length then valB at_ (lvAt vs i) else vAt at_ i) : ∀ {l : Lv}, Good l → valN at_ (ofP (vs.map sumP) l) = valR inner l := by
  have hok : ∀ f ∈ vs.map sumP, NfOk f := fun f hf => by obtain ⟨u, hu, rfl⟩ := List.mem_map.1 hf; exact sumP_ok (hs u hu)
  intro l h
  induction h with
  | @mk k n ks h hk ih =>
    rcases good_cases (.mk h hk) with ⟨rfl, rfl, h0, h1⟩ | ⟨rfl, rfl, h0, h1⟩ | ⟨rfl, x, rfl, h0, h1, hx⟩ | ⟨rfl, x, y, rfl, -, -⟩
    · rw [valR_num, ofP_num]; rfl
    · rw [valR_var, hin n.toNat, ofP_var]
      by_cases hlt : n < vs.length
      · have hn : n.toNat < vs.length := by omega
        have hu : soundB (lvAt vs (n.toNat : Nat)) = true := by
          unfold lvAt
          rw [Int.toNat_natCast, List.getD_eq_getElem?_getD, List.getElem?_eq_getElem hn]
          exact hs _ (List.getElem_mem _)
        rw [if_pos hn, valB_yes hu]
        unfold varN
        rw [if_pos (by simpa using hlt), List.getD_eq_getElem?_getD, List.getElem?_map, List.getElem?_eq_getElem hn]
        unfold lvAt
        rw [Int.toNat_natCast, List.getD_eq_getElem?_getD, List.getElem?_eq_getElem hn]; rfl
      · rw [if_neg (by omega)]
        have hv : varN (vs.map sumP) n = sumP (.mk 2 n []) := by
          unfold varN
          rw [if_neg (by simpa using hlt)]
          show _ = ofP [] _
          rw [ofP_var]
          unfold varN
          rw [if_neg (by simp; omega)]
        rw [hv, valN_sum at_ (.mk h hk), valR_var]
    · rw [valR_succ, ofP_succ, valN_plus at_ (ofP_ok hok hx) (by omega), ih x (by simp)]
    · rw [valR_max, ofP_max, valN_or, ih x (by simp), ih y (by simp)]
end Go.Proofs.Ytjlhbaohippidaa

/-! Inst -/
namespace Go.Proofs.Ytjlhbaohippidaa
open Go.RowKit Go.Proofs.YtjlhbaohippidaaW.PrintWords Go.RegionInvYtjlhbaohippidaa Go.RegionEYtjlhbaohippidaa

/-- The row of sums in block G, their numbers in blocks of S. -/
def InAt (w : World) (S : Nat → Prop) (G : Nat) (fs : List Nf) : Prop :=
  ∃ cs : Array Value, w.heap[G]? = some (.cells cs 52 (0, 0)) ∧ cs.size = fs.length * 2 ∧
    ∀ (i : Nat) (f : Nf), fs[i]? = some f → ∃ A' c', cs[i * 2]? = some (.int .i64 f.1) ∧ cs[i * 2 + 1]? = some (.slice A' f.2.length c') ∧ f.2.length ≤ c' ∧ IntsS w S A' f.2.length f.2
theorem InAt.same {w w' : World} {S : Nat → Prop} {G : Nat} {fs : List Nf} (h : InAt w S G fs) (hG : w'.heap[G]? = w.heap[G]?) (hs : ∀ k, S k → k < w.heap.size → w'.heap[k]? = w.heap[k]?) : InAt w' S G fs := by
  obtain ⟨cs, h1, h2, h3⟩ := h
  refine ⟨cs, hG.trans h1, h2, fun i f hf => ?_⟩
  obtain ⟨A', c', e1, e2, e3, e4⟩ := h3 i f hf
  exact ⟨A', c', e1, e2, e3, e4.same hs⟩
theorem InAt.mono {w : World} {S S' : Nat → Prop} {G : Nat} {fs : List Nf} (h : InAt w S G fs) (hs : ∀ k, S k → k < w.heap.size → S' k) : InAt w S' G fs := by
  obtain ⟨cs, h1, h2, h3⟩ := h
  refine ⟨cs, h1, h2, fun i f hf => ?_⟩
  obtain ⟨A', c', e1, e2, e3, e4⟩ := h3 i f hf
  exact ⟨A', c', e1, e2, e3, e4.mono hs⟩
theorem InAt.nfs {w : World} {S : Nat → Prop} {G : Nat} {fs : List Nf} (h : InAt w S G fs) : NfsS w (fun k => k = G ∨ S k) (some ⟨G, 0, none⟩) fs := by
  obtain ⟨cs, h1, h2, h3⟩ := h
  intro i f hf
  obtain ⟨A', c', e1, e2, e3, e4⟩ := h3 i f hf
  have hc : ∀ (j : Nat) (v : Value), cs[j]? = some v → w.cell? ⟨G, j, none⟩ = some v := fun j v hv => by rw [cell_of_row _ _ _ _ _ _ h1]; exact hv
  exact ⟨G, 0, A', c', rfl, .inl rfl, by rw [Nat.zero_add]; exact hc _ _ e1, by rw [Nat.zero_add]; exact hc _ _ e2, e3, e4.mono fun b hb _ => .inr hb⟩
theorem InAt.lt {w : World} {S : Nat → Prop} {G : Nat} {fs : List Nf} (h : InAt w S G fs) : G < w.heap.size := by
  obtain ⟨cs, h1, -⟩ := h
  exact blk_lt h1
theorem InAt.cells {w : World} {S : Nat → Prop} {G : Nat} {fs : List Nf} (h : InAt w S G fs) {n : Nat} (hn : n < fs.length) : ∃ x A' m' c', w.cell? ⟨G, n * 2, none⟩ = some (.int .i64 x) ∧ w.cell? ⟨G, n * 2 + 1, none⟩ = some (.slice A' m' c') ∧ w.frozen? ⟨G, n * 2, none⟩ = false ∧ w.frozen? ⟨G, n * 2 + 1, none⟩ = false := by
  obtain ⟨cs, h1, h2, h3⟩ := h
  obtain ⟨A', c', e1, e2, e3, e4⟩ := h3 n _ (List.getElem?_eq_getElem hn)
  exact ⟨_, A', _, c', by rw [cell_of_row _ _ _ _ _ _ h1]; exact e1, by rw [cell_of_row _ _ _ _ _ _ h1]; exact e2, blk_frozen h1 _, blk_frozen h1 _⟩
theorem chg_pair (w : World) (g i j : Nat) (a b : Value) : Chg (fun k => k = g) w ((w.setCell ⟨g, i, none⟩ a).setCell ⟨g, j, none⟩ b) := chg_trans (chg_set _ _ _ _) (chg_set _ _ _ _)
theorem fix_in {w0 : World} {G k : Nat} (hk : G < k ∧ k < w0.heap.size) : Fix w0 (est2 10 0 (fun k => k = G) (fun _ => False)) k := est2_fix hk.2 (fun h => by have h : k = G := h; omega) (fun h => h)
/-- Sum n is laid by. -/
theorem InAt.put {w : World} {S S' : Nat → Prop} {G : Nat} {fs : List Nf} (h : InAt w S G fs) {n : Nat} (hn : n < fs.length) {f : Nf} {A : Option Addr} {m c : Nat} (hm : m = f.2.length) (hc : m ≤ c) (hf : IntsS w S' A m f.2) (hS : ∀ k, S k → S' k) (hG : ¬ S' G) :
    InAt ((w.setCell ⟨G, n * 2, none⟩ (.int .i64 f.1)).setCell ⟨G, n * 2 + 1, none⟩ (.slice A m c)) S' G (fs.set n f) := by
  subst hm
  have hch := chg_pair w G (n * 2) (n * 2 + 1) (.int .i64 f.1) (.slice A f.2.length c)
  have hsame : ∀ k, S' k → k < w.heap.size → ((w.setCell ⟨G, n * 2, none⟩ (.int .i64 f.1)).setCell ⟨G, n * 2 + 1, none⟩ (.slice A f.2.length c)).heap[k]? = w.heap[k]? :=
    fun k hk hz => hch.block k hz fun e => hG (by have e : k = G := e; rw [← e]; exact hk)
  obtain ⟨cs, h1, h2, h3⟩ := h
  refine ⟨_, blk_set (blk_set h1 (n * 2) _) (n * 2 + 1) _, by simpa using h2, fun i g hg => ?_⟩
  have hi : i < fs.length := by have := (List.getElem?_eq_some_iff.1 hg).1; simpa using this
  rw [List.getElem?_set] at hg
  by_cases e : n = i
  · subst e
    rw [if_pos rfl, if_pos hn] at hg
    obtain rfl : f = g := by simpa using hg
    refine ⟨A, c, ?_, ?_, hc, hf.same hsame⟩
    · rw [Array.getElem?_setIfInBounds, if_neg (by omega), Array.getElem?_setIfInBounds, if_pos rfl, if_pos (by omega)]
    · rw [Array.getElem?_setIfInBounds, if_pos rfl, if_pos (by simp; omega)]
  · rw [if_neg e] at hg
    obtain ⟨A', c', e1, e2, e3, e4⟩ := h3 i g hg
    refine ⟨A', c', ?_, ?_, e3, (e4.mono fun k hk _ => hS k hk).same hsame⟩
    · rw [Array.getElem?_setIfInBounds, if_neg (by omega), Array.getElem?_setIfInBounds, if_neg (by omega)]; exact e1
    · rw [Array.getElem?_setIfInBounds, if_neg (by omega), Array.getElem?_setIfInBounds, if_neg (by omega)]; exact e2
end Go.Proofs.Ytjlhbaohippidaa

/-! InR -/
namespace Go.Proofs.Ytjlhbaohippidaa
open Go.RowKit Go.Proofs.YtjlhbaohippidaaW.PrintWords Go.RegionInvYtjlhbaohippidaa Go.RegionEYtjlhbaohippidaa
set_option linter.unusedVariables false

def in_ops : List Oper := [
  { dst := some 24, op := Go.Op.load 59 (Go.Operand.tmp 3), type := 59, pos := "level.go:280", after := #[], guard := none },
  { dst := some 25, op := Go.Op.fieldAddr 24 (Go.Operand.tmp 4) 1, type := 0, pos := "level.go:280", after := #[], guard := none },
  { dst := some 26, op := Go.Op.load 3 (Go.Operand.tmp 25), type := 3, pos := "level.go:280", after := #[{ on := 1, ground := Go.Ground.data }], guard := none },
  { dst := some 27, op := Go.Op.load 22 (Go.Operand.tmp 2), type := 22, pos := "level.go:280", after := #[], guard := none },
  { dst := some 28, op := Go.Op.fieldAddr 24 (Go.Operand.tmp 4) 1, type := 0, pos := "level.go:280", after := #[], guard := none },
  { dst := some 29, op := Go.Op.load 3 (Go.Operand.tmp 28), type := 3, pos := "level.go:280", after := #[{ on := 4, ground := Go.Ground.data }], guard := none },
  { dst := some 30, op := Go.Op.indexAddr 22 (Go.Operand.tmp 27) (Go.Operand.tmp 29), type := 0, pos := "level.go:280", after := #[{ on := 3, ground := Go.Ground.data }, { on := 5, ground := Go.Ground.data }], guard := none },
  { dst := some 31, op := Go.Op.load 24 (Go.Operand.tmp 30), type := 24, pos := "level.go:280", after := #[{ on := 6, ground := Go.Ground.data }], guard := none },
  { dst := some 32, op := Go.Op.call { callee := Go.Callee.value (Go.Operand.func 34), args := #[Go.Operand.tmp 31, Go.Operand.const (Go.Value.slice none 0 0)], argTypes := #[24, 59] }, type := 52, pos := "level.go:280", after := #[{ on := 7, ground := Go.Ground.data }], guard := none },
  { dst := some 33, op := Go.Op.indexAddr 59 (Go.Operand.tmp 24) (Go.Operand.tmp 26), type := 0, pos := "level.go:280", after := #[{ on := 0, ground := Go.Ground.data }, { on := 2, ground := Go.Ground.data }, { on := 0, ground := Go.Ground.phase }, { on := 1, ground := Go.Ground.phase }, { on := 2, ground := Go.Ground.phase }, { on := 3, ground := Go.Ground.phase }, { on := 4, ground := Go.Ground.phase }, { on := 5, ground := Go.Ground.phase }, { on := 6, ground := Go.Ground.phase }, { on := 7, ground := Go.Ground.phase }, { on := 8, ground := Go.Ground.phase }], guard := none },
  { dst := none, op := Go.Op.store 52 (Go.Operand.tmp 33) (Go.Operand.tmp 32), type := 0, pos := "level.go:280", after := #[{ on := 9, ground := Go.Ground.data }, { on := 8, ground := Go.Ground.data }, { on := 8, ground := Go.Ground.chain }, { on := 0, ground := Go.Ground.phase }, { on := 1, ground := Go.Ground.phase }, { on := 2, ground := Go.Ground.phase }, { on := 3, ground := Go.Ground.phase }, { on := 4, ground := Go.Ground.phase }, { on := 5, ground := Go.Ground.phase }, { on := 6, ground := Go.Ground.phase }, { on := 7, ground := Go.Ground.phase }, { on := 8, ground := Go.Ground.phase }], guard := none }]
def in_F (w0 : World) (bx gi G p b0 o0 nv cv n m0 c0 : Nat) (A0 Ax : Option Addr) (cx : Nat) (x : Lv) (fs : List Nf) : Nat → (Nat → Value) → Value → World → (Nat → Prop) → Prop := fun rix => match rix with
  | 0 => fun _ v _ _ => v = .slice (some ⟨G, 0, none⟩) nv nv
  | 1 => fun _ v _ _ => v = .pointer (some ⟨p, 1, none⟩)
  | 2 => fun _ v _ _ => v = .int .i64 n
  | 3 => fun _ v _ _ => v = .slice (some ⟨b0, o0, none⟩) nv cv
  | 4 => fun _ v _ _ => v = .pointer (some ⟨p, 1, none⟩)
  | 5 => fun _ v _ _ => v = .int .i64 n
  | 6 => fun _ v _ _ => v = .pointer (some ⟨b0, o0 + n * 3, none⟩)
  | 7 => fun _ v _ _ => v = .agg #[.int .i64 x.kind, .int .i64 x.num, .slice Ax x.kids.length cx]
  | 8 => fun τ v w O => NfV (fun _ => False) (sumP x) v w O
  | 9 => fun _ v _ _ => v = .pointer (some ⟨G, n * 2, none⟩)
  | 10 => fun τ v w O => InAt w (fun k => (fun k => G < k ∧ k < w0.heap.size) k ∨ (O k ∧ ¬ k = G)) G (fs.set n (sumP x)) ∧ O G
  | _ => fun _ _ _ _ => True
def in_C : Nat → List Nat := fun rix => match rix with
  | 10 => [8]
  | _ => []
theorem in_nw2 : nwB in_ops.toArray 2 = true := by kernel_rfl
theorem in_nw3 : nwB in_ops.toArray 3 = true := by kernel_rfl
theorem in_nw4 : nwB in_ops.toArray 4 = true := by kernel_rfl
set_option maxRecDepth 100000 in
set_option maxHeartbeats 8000000 in
theorem in_obs (w0 : World) (bx gi G p b0 o0 nv cv n m0 c0 : Nat) (A0 Ax : Option Addr) (cx : Nat) (x : Lv) (fs : List Nf) (hx2 : w0.heap[bx]? = some (.cells #[.slice (some ⟨b0, o0, none⟩) nv cv] 22 (0, 0))) (hx3 : w0.heap[gi]? = some (.cells #[.slice (some ⟨G, 0, none⟩) nv nv] 59 (0, 0))) (hx4 : w0.heap[p]? = some (.cells #[.int .i64 2, .int .i64 n, .slice A0 m0 c0] 24 (0, 0))) (hbG : ¬ bx = G) (hgG : ¬ gi = G) (hpG : ¬ p = G) (hb0 : b0 < w0.heap.size) (hb0G : ¬ b0 = G) (hc0 : w0.cell? ⟨b0, o0 + n * 3, none⟩ = some (.int .i64 x.kind)) (hc1 : w0.cell? ⟨b0, o0 + n * 3 + 1, none⟩ = some (.int .i64 x.num)) (hc2 : w0.cell? ⟨b0, o0 + n * 3 + 2, none⟩ = some (.slice Ax x.kids.length cx)) (hx : LvS w0 (fun k => k < w0.heap.size ∧ ¬ k = G) Ax cx x) (hs : soundB x = true) (hin : InAt w0 (fun k => G < k ∧ k < w0.heap.size) G fs) (hn : n < nv) (hl : fs.length = nv) (Q : Exit → Act → World → Prop) (a0 : Act) (hi2 : a0.tmps.getD 2 undef = .pointer (some ⟨bx, 0, none⟩)) (hi3 : a0.tmps.getD 3 undef = .pointer (some ⟨gi, 0, none⟩)) (hi4 : a0.tmps.getD 4 undef = .pointer (some ⟨p, 0, none⟩)) :
    ObsE Try.prog in_ops.toArray Q (est2 10 0 (fun k => k = G) (fun _ => False)) in_C (in_F w0 bx gi G p b0 o0 nv cv n m0 c0 A0 Ax cx x fs) a0 w0 in_ops.toArray.toList 0 := by
  have nw2 := in_nw2
  have nw3 := in_nw3
  have nw4 := in_nw4
  refine ⟨?_, ?_, ?_, ?_, ?_, ?_, ?_, ?_, ?_, ?_, ?_, trivial⟩
  · refine ⟨⟨fun τ => stableE_det _, leans_not⟩, ?_⟩
    intro a w O hk
    have e3 : a.eval (.tmp 3) = .pointer (some ⟨gi, 0, none⟩) := (hk.init 3 (initialB_of_nw nw3)).trans hi3
    have x2 := hk.world.still hx2 (fun ⟨_, h⟩ => h.elim (fun h => hbG h.2) And.right)
    have x3 := hk.world.still hx3 (fun ⟨_, h⟩ => h.elim (fun h => hgG h.2) And.right)
    have x4 := hk.world.still hx4 (fun ⟨_, h⟩ => h.elim (fun h => hpG h.2) And.right)
    obtain ⟨p0, p1, p2, -, -, -⟩ := row3 x4
    have r2 : w.cell? ⟨bx, 0, none⟩ = some (.slice (some ⟨b0, o0, none⟩) nv cv) := by rw [cell_of_row _ _ _ _ _ _ x2]; rfl
    have r3 : w.cell? ⟨gi, 0, none⟩ = some (.slice (some ⟨G, 0, none⟩) nv nv) := by rw [cell_of_row _ _ _ _ _ _ x3]; rfl
    have hcc : ∀ j, w.cell? ⟨b0, j, none⟩ = w0.cell? ⟨b0, j, none⟩ := fun j => cell_same (hk.fix _ (est2_fix hb0 (fun h => hb0G h) (fun h => h)))
    have q0 := (hcc _).trans hc0
    have q1 := (hcc _).trans hc1
    have q2 := (hcc _).trans hc2
    exact obE_run (wanted_none rfl) (by unfold execOp; simp only []; rw [e3]; go_simp) rfl
  · refine ⟨⟨fun τ => stableE_det _, leans_not⟩, ?_⟩
    intro a w O hk
    have e4 : a.eval (.tmp 4) = .pointer (some ⟨p, 0, none⟩) := (hk.init 4 (initialB_of_nw nw4)).trans hi4
    exact obE_run (wanted_none rfl) (by unfold execOp; simp only []; rw [e4]; go_simp) rfl
  · refine ⟨⟨fun τ => stableE_det _, leans_not⟩, ?_⟩
    intro a w O hk
    have e25 : a.eval (.tmp 25) = .pointer (some ⟨p, 1, none⟩) := hk.fact 1 _ 25 rfl rfl rfl rfl
    have x2 := hk.world.still hx2 (fun ⟨_, h⟩ => h.elim (fun h => hbG h.2) And.right)
    have x3 := hk.world.still hx3 (fun ⟨_, h⟩ => h.elim (fun h => hgG h.2) And.right)
    have x4 := hk.world.still hx4 (fun ⟨_, h⟩ => h.elim (fun h => hpG h.2) And.right)
    obtain ⟨p0, p1, p2, -, -, -⟩ := row3 x4
    have r2 : w.cell? ⟨bx, 0, none⟩ = some (.slice (some ⟨b0, o0, none⟩) nv cv) := by rw [cell_of_row _ _ _ _ _ _ x2]; rfl
    have r3 : w.cell? ⟨gi, 0, none⟩ = some (.slice (some ⟨G, 0, none⟩) nv nv) := by rw [cell_of_row _ _ _ _ _ _ x3]; rfl
    have hcc : ∀ j, w.cell? ⟨b0, j, none⟩ = w0.cell? ⟨b0, j, none⟩ := fun j => cell_same (hk.fix _ (est2_fix hb0 (fun h => hb0G h) (fun h => h)))
    have q0 := (hcc _).trans hc0
    have q1 := (hcc _).trans hc1
    have q2 := (hcc _).trans hc2
    exact obE_run (wanted_none rfl) (by unfold execOp; simp only []; rw [e25]; go_simp) rfl
  · refine ⟨⟨fun τ => stableE_det _, leans_not⟩, ?_⟩
    intro a w O hk
    have e2 : a.eval (.tmp 2) = .pointer (some ⟨bx, 0, none⟩) := (hk.init 2 (initialB_of_nw nw2)).trans hi2
    have x2 := hk.world.still hx2 (fun ⟨_, h⟩ => h.elim (fun h => hbG h.2) And.right)
    have x3 := hk.world.still hx3 (fun ⟨_, h⟩ => h.elim (fun h => hgG h.2) And.right)
    have x4 := hk.world.still hx4 (fun ⟨_, h⟩ => h.elim (fun h => hpG h.2) And.right)
    obtain ⟨p0, p1, p2, -, -, -⟩ := row3 x4
    have r2 : w.cell? ⟨bx, 0, none⟩ = some (.slice (some ⟨b0, o0, none⟩) nv cv) := by rw [cell_of_row _ _ _ _ _ _ x2]; rfl
    have r3 : w.cell? ⟨gi, 0, none⟩ = some (.slice (some ⟨G, 0, none⟩) nv nv) := by rw [cell_of_row _ _ _ _ _ _ x3]; rfl
    have hcc : ∀ j, w.cell? ⟨b0, j, none⟩ = w0.cell? ⟨b0, j, none⟩ := fun j => cell_same (hk.fix _ (est2_fix hb0 (fun h => hb0G h) (fun h => h)))
    have q0 := (hcc _).trans hc0
    have q1 := (hcc _).trans hc1
    have q2 := (hcc _).trans hc2
    exact obE_run (wanted_none rfl) (by unfold execOp; simp only []; rw [e2]; go_simp) rfl
  · refine ⟨⟨fun τ => stableE_det _, leans_not⟩, ?_⟩
    intro a w O hk
    have e4 : a.eval (.tmp 4) = .pointer (some ⟨p, 0, none⟩) := (hk.init 4 (initialB_of_nw nw4)).trans hi4
    exact obE_run (wanted_none rfl) (by unfold execOp; simp only []; rw [e4]; go_simp) rfl
  · refine ⟨⟨fun τ => stableE_det _, leans_not⟩, ?_⟩
    intro a w O hk
    have e28 : a.eval (.tmp 28) = .pointer (some ⟨p, 1, none⟩) := hk.fact 4 _ 28 rfl rfl rfl rfl
    have x2 := hk.world.still hx2 (fun ⟨_, h⟩ => h.elim (fun h => hbG h.2) And.right)
    have x3 := hk.world.still hx3 (fun ⟨_, h⟩ => h.elim (fun h => hgG h.2) And.right)
    have x4 := hk.world.still hx4 (fun ⟨_, h⟩ => h.elim (fun h => hpG h.2) And.right)
    obtain ⟨p0, p1, p2, -, -, -⟩ := row3 x4
    have r2 : w.cell? ⟨bx, 0, none⟩ = some (.slice (some ⟨b0, o0, none⟩) nv cv) := by rw [cell_of_row _ _ _ _ _ _ x2]; rfl
    have r3 : w.cell? ⟨gi, 0, none⟩ = some (.slice (some ⟨G, 0, none⟩) nv nv) := by rw [cell_of_row _ _ _ _ _ _ x3]; rfl
    have hcc : ∀ j, w.cell? ⟨b0, j, none⟩ = w0.cell? ⟨b0, j, none⟩ := fun j => cell_same (hk.fix _ (est2_fix hb0 (fun h => hb0G h) (fun h => h)))
    have q0 := (hcc _).trans hc0
    have q1 := (hcc _).trans hc1
    have q2 := (hcc _).trans hc2
    exact obE_run (wanted_none rfl) (by unfold execOp; simp only []; rw [e28]; go_simp) rfl
  · refine ⟨⟨fun τ => stableE_det _, leans_not⟩, ?_⟩
    intro a w O hk
    have e27 : a.eval (.tmp 27) = .slice (some ⟨b0, o0, none⟩) nv cv := hk.fact 3 _ 27 rfl rfl rfl rfl
    have e29 : a.eval (.tmp 29) = .int .i64 n := hk.fact 5 _ 29 rfl rfl rfl rfl
    have x2 := hk.world.still hx2 (fun ⟨_, h⟩ => h.elim (fun h => hbG h.2) And.right)
    have x3 := hk.world.still hx3 (fun ⟨_, h⟩ => h.elim (fun h => hgG h.2) And.right)
    have x4 := hk.world.still hx4 (fun ⟨_, h⟩ => h.elim (fun h => hpG h.2) And.right)
    obtain ⟨p0, p1, p2, -, -, -⟩ := row3 x4
    have r2 : w.cell? ⟨bx, 0, none⟩ = some (.slice (some ⟨b0, o0, none⟩) nv cv) := by rw [cell_of_row _ _ _ _ _ _ x2]; rfl
    have r3 : w.cell? ⟨gi, 0, none⟩ = some (.slice (some ⟨G, 0, none⟩) nv nv) := by rw [cell_of_row _ _ _ _ _ _ x3]; rfl
    have hcc : ∀ j, w.cell? ⟨b0, j, none⟩ = w0.cell? ⟨b0, j, none⟩ := fun j => cell_same (hk.fix _ (est2_fix hb0 (fun h => hb0G h) (fun h => h)))
    have q0 := (hcc _).trans hc0
    have q1 := (hcc _).trans hc1
    have q2 := (hcc _).trans hc2
    exact obE_run (wanted_none rfl) (by unfold execOp; simp only []; rw [e27, e29]; go_simp) rfl
  · refine ⟨⟨fun τ => stableE_det _, leans_not⟩, ?_⟩
    intro a w O hk
    have e30 : a.eval (.tmp 30) = .pointer (some ⟨b0, o0 + n * 3, none⟩) := hk.fact 6 _ 30 rfl rfl rfl rfl
    have x2 := hk.world.still hx2 (fun ⟨_, h⟩ => h.elim (fun h => hbG h.2) And.right)
    have x3 := hk.world.still hx3 (fun ⟨_, h⟩ => h.elim (fun h => hgG h.2) And.right)
    have x4 := hk.world.still hx4 (fun ⟨_, h⟩ => h.elim (fun h => hpG h.2) And.right)
    obtain ⟨p0, p1, p2, -, -, -⟩ := row3 x4
    have r2 : w.cell? ⟨bx, 0, none⟩ = some (.slice (some ⟨b0, o0, none⟩) nv cv) := by rw [cell_of_row _ _ _ _ _ _ x2]; rfl
    have r3 : w.cell? ⟨gi, 0, none⟩ = some (.slice (some ⟨G, 0, none⟩) nv nv) := by rw [cell_of_row _ _ _ _ _ _ x3]; rfl
    have hcc : ∀ j, w.cell? ⟨b0, j, none⟩ = w0.cell? ⟨b0, j, none⟩ := fun j => cell_same (hk.fix _ (est2_fix hb0 (fun h => hb0G h) (fun h => h)))
    have q0 := (hcc _).trans hc0
    have q1 := (hcc _).trans hc1
    have q2 := (hcc _).trans hc2
    exact obE_run (wanted_none rfl) (by unfold execOp; simp only []; rw [e30]; go_simp) rfl
  · refine ⟨⟨fun τ => stableE_nf (fun k hk' => hk'.elim), leans_not⟩, ?_⟩
    intro a w O hk
    have e31 : a.eval (.tmp 31) = .agg #[.int .i64 x.kind, .int .i64 x.num, .slice Ax x.kids.length cx] := hk.fact 7 _ 31 rfl rfl rfl rfl
    have x2 := hk.world.still hx2 (fun ⟨_, h⟩ => h.elim (fun h => hbG h.2) And.right)
    have x3 := hk.world.still hx3 (fun ⟨_, h⟩ => h.elim (fun h => hgG h.2) And.right)
    have x4 := hk.world.still hx4 (fun ⟨_, h⟩ => h.elim (fun h => hpG h.2) And.right)
    obtain ⟨p0, p1, p2, -, -, -⟩ := row3 x4
    have r2 : w.cell? ⟨bx, 0, none⟩ = some (.slice (some ⟨b0, o0, none⟩) nv cv) := by rw [cell_of_row _ _ _ _ _ _ x2]; rfl
    have r3 : w.cell? ⟨gi, 0, none⟩ = some (.slice (some ⟨G, 0, none⟩) nv nv) := by rw [cell_of_row _ _ _ _ _ _ x3]; rfl
    have hcc : ∀ j, w.cell? ⟨b0, j, none⟩ = w0.cell? ⟨b0, j, none⟩ := fun j => cell_same (hk.fix _ (est2_fix hb0 (fun h => hb0G h) (fun h => h)))
    have q0 := (hcc _).trans hc0
    have q1 := (hcc _).trans hc1
    have q2 := (hcc _).trans hc2
    have hlx := (hx.same (fun k hk' _ => hk.fix k ((fun k hk' => est2_fix hk'.1 (fun h => hk'.2 h) (fun h => h)) k hk')))
    refine obE_callNew #[.agg #[.int .i64 x.kind, .int .i64 x.num, .slice Ax x.kids.length cx], .slice none 0 0] rfl rfl rfl rfl (by simp only [List.map_cons, List.map_nil]; rw [e31]; rfl) (wanted_none rfl) ((of_nil_calls x hs Ax cx w (LvS.all hlx)).mono ?_)
    intro e w' h
    exact NfV.of_got h
  · refine ⟨⟨fun τ => stableE_det _, leans_not⟩, ?_⟩
    intro a w O hk
    have e24 : a.eval (.tmp 24) = .slice (some ⟨G, 0, none⟩) nv nv := hk.fact 0 _ 24 rfl rfl rfl rfl
    have e26 : a.eval (.tmp 26) = .int .i64 n := hk.fact 2 _ 26 rfl rfl rfl rfl
    have x2 := hk.world.still hx2 (fun ⟨_, h⟩ => h.elim (fun h => hbG h.2) And.right)
    have x3 := hk.world.still hx3 (fun ⟨_, h⟩ => h.elim (fun h => hgG h.2) And.right)
    have x4 := hk.world.still hx4 (fun ⟨_, h⟩ => h.elim (fun h => hpG h.2) And.right)
    obtain ⟨p0, p1, p2, -, -, -⟩ := row3 x4
    have r2 : w.cell? ⟨bx, 0, none⟩ = some (.slice (some ⟨b0, o0, none⟩) nv cv) := by rw [cell_of_row _ _ _ _ _ _ x2]; rfl
    have r3 : w.cell? ⟨gi, 0, none⟩ = some (.slice (some ⟨G, 0, none⟩) nv nv) := by rw [cell_of_row _ _ _ _ _ _ x3]; rfl
    have hcc : ∀ j, w.cell? ⟨b0, j, none⟩ = w0.cell? ⟨b0, j, none⟩ := fun j => cell_same (hk.fix _ (est2_fix hb0 (fun h => hb0G h) (fun h => h)))
    have q0 := (hcc _).trans hc0
    have q1 := (hcc _).trans hc1
    have q2 := (hcc _).trans hc2
    exact obE_run (wanted_none rfl) (by unfold execOp; simp only []; rw [e24, e26]; go_simp) rfl
  · refine ⟨⟨fun τ => fun v w w' O h hz hk' => ⟨InAt.same h.1 (hk' G h.1.lt (.inr h.2)) (fun k hk2 hz2 => hk' k hz2 (hk2.imp ((fun k hk' => fix_in hk') k) And.left)), h.2⟩, leans_not⟩, ?_⟩
    intro a w O hk
    have e33 : a.eval (.tmp 33) = .pointer (some ⟨G, n * 2, none⟩) := hk.fact 9 _ 33 rfl rfl rfl rfl
    have f32 := hk.fact 8 _ 32 rfl rfl rfl rfl
    have g32 := hk.owns 8 rfl rfl
    have x2 := hk.world.still hx2 (fun ⟨_, h⟩ => h.elim (fun h => hbG h.2) And.right)
    have x3 := hk.world.still hx3 (fun ⟨_, h⟩ => h.elim (fun h => hgG h.2) And.right)
    have x4 := hk.world.still hx4 (fun ⟨_, h⟩ => h.elim (fun h => hpG h.2) And.right)
    obtain ⟨p0, p1, p2, -, -, -⟩ := row3 x4
    have r2 : w.cell? ⟨bx, 0, none⟩ = some (.slice (some ⟨b0, o0, none⟩) nv cv) := by rw [cell_of_row _ _ _ _ _ _ x2]; rfl
    have r3 : w.cell? ⟨gi, 0, none⟩ = some (.slice (some ⟨G, 0, none⟩) nv nv) := by rw [cell_of_row _ _ _ _ _ _ x3]; rfl
    have hcc : ∀ j, w.cell? ⟨b0, j, none⟩ = w0.cell? ⟨b0, j, none⟩ := fun j => cell_same (hk.fix _ (est2_fix hb0 (fun h => hb0G h) (fun h => h)))
    have q0 := (hcc _).trans hc0
    have q1 := (hcc _).trans hc1
    have q2 := (hcc _).trans hc2
    have hin' : InAt w (fun k => (fun k => G < k ∧ k < w0.heap.size) k) G fs := InAt.same hin (hk.est 10 _ rfl (.inl rfl) G (.inl ⟨rfl, rfl⟩)) (fun k hk' hz => hk.fix k ((fun k hk' => fix_in hk') k hk'))
    obtain ⟨y, A', m', c', z0, z1, y0, y1⟩ := hin'.cells (n := n) (by omega)
    obtain ⟨A, m, cap, e32, h1, h2⟩ := f32
    have hm := h2.1.1
    refine obE_store (w' := (w.setCell ⟨G, n * 2, none⟩ (.int .i64 (sumP x).1)).setCell ⟨G, n * 2 + 1, none⟩ (.slice A m cap)) (fun k => k = G ∨ O 8 k) (wanted_none rfl) (by unfold execOp; simp only []; rw [e33, show a.eval (.tmp 32) = _ from e32]; go_simp) ((chg_pair w G _ _ _ _).mono fun k h => .inr (.inl ⟨rfl, h⟩)) ⟨hin'.put (by omega) hm.symm h1 (h2.mono fun k hk' _ => .inr <| hk'.elim False.elim fun h' => ⟨.inr h', fun e => hk.away 10 8 _ rfl (.inl rfl) rfl rfl G (.inl ⟨rfl, rfl⟩) (e ▸ h')⟩) (fun k h => .inl h) (fun h => h.elim (fun h => by have := h.1; omega) fun h => h.2 rfl), .inl rfl⟩ (fun k h => .inl ?_)
    exact h.elim (fun h => .inr (.inl ⟨rfl, h⟩)) fun h => .inl ⟨8, by simp [in_C], h⟩
set_option maxRecDepth 100000 in
set_option maxHeartbeats 8000000 in
theorem in_region {Q : Exit → Act → World → Prop} {id : Nat} (w0 : World) (bx gi G p b0 o0 nv cv n m0 c0 : Nat) (A0 Ax : Option Addr) (cx : Nat) (x : Lv) (fs : List Nf) {s0 s1 s5 s6 s7 s8 s9 s10 s11 s12 s13 s14 s15 s16 s17 s18 s19 s20 s21 s22 s23 s24 s25 s26 s27 s28 s29 s30 s31 s32 s33 : Value} (hx2 : w0.heap[bx]? = some (.cells #[.slice (some ⟨b0, o0, none⟩) nv cv] 22 (0, 0))) (hx3 : w0.heap[gi]? = some (.cells #[.slice (some ⟨G, 0, none⟩) nv nv] 59 (0, 0))) (hx4 : w0.heap[p]? = some (.cells #[.int .i64 2, .int .i64 n, .slice A0 m0 c0] 24 (0, 0))) (hbG : ¬ bx = G) (hgG : ¬ gi = G) (hpG : ¬ p = G) (hb0 : b0 < w0.heap.size) (hb0G : ¬ b0 = G) (hc0 : w0.cell? ⟨b0, o0 + n * 3, none⟩ = some (.int .i64 x.kind)) (hc1 : w0.cell? ⟨b0, o0 + n * 3 + 1, none⟩ = some (.int .i64 x.num)) (hc2 : w0.cell? ⟨b0, o0 + n * 3 + 2, none⟩ = some (.slice Ax x.kids.length cx)) (hx : LvS w0 (fun k => k < w0.heap.size ∧ ¬ k = G) Ax cx x) (hs : soundB x = true) (hin : InAt w0 (fun k => G < k ∧ k < w0.heap.size) G fs) (hn : n < nv) (hl : fs.length = nv)
    (hend : ∀ (w' : World) (u32 : Value) (v10 : Value) (O10 : Nat → Prop), Chg (fun k => (fun k => k = G) k ∨ (fun _ => False) k) w0 w' → (InAt w' (fun k => (fun k => G < k ∧ k < w0.heap.size) k ∨ (O10 k ∧ ¬ k = G)) G (fs.set n (sumP x)) ∧ O10 G) → (∀ k, O10 k → k < w'.heap.size ∧ ¬ Fix w0 (est2 10 0 (fun k => k = G) (fun _ => False)) k) → Q .normal { tmps := (s0 :: s1 :: (.pointer (some ⟨bx, 0, none⟩) : Value) :: (.pointer (some ⟨gi, 0, none⟩) : Value) :: (.pointer (some ⟨p, 0, none⟩) : Value) :: s5 :: s6 :: s7 :: s8 :: s9 :: s10 :: s11 :: s12 :: s13 :: s14 :: s15 :: s16 :: s17 :: s18 :: s19 :: s20 :: s21 :: s22 :: s23 :: (.slice (some ⟨G, 0, none⟩) nv nv : Value) :: (.pointer (some ⟨p, 1, none⟩) : Value) :: (.int .i64 n : Value) :: (.slice (some ⟨b0, o0, none⟩) nv cv : Value) :: (.pointer (some ⟨p, 1, none⟩) : Value) :: (.int .i64 n : Value) :: (.pointer (some ⟨b0, o0 + n * 3, none⟩) : Value) :: (.agg #[.int .i64 x.kind, .int .i64 x.num, .slice Ax x.kids.length cx] : Value) :: u32 :: (.pointer (some ⟨G, n * 2, none⟩) : Value) :: ([] : List Value)).toArray, defers := [] } w') :
    (Code.region id in_ops.toArray true).wp Try.prog Q { tmps := (s0 :: s1 :: (.pointer (some ⟨bx, 0, none⟩) : Value) :: (.pointer (some ⟨gi, 0, none⟩) : Value) :: (.pointer (some ⟨p, 0, none⟩) : Value) :: s5 :: s6 :: s7 :: s8 :: s9 :: s10 :: s11 :: s12 :: s13 :: s14 :: s15 :: s16 :: s17 :: s18 :: s19 :: s20 :: s21 :: s22 :: s23 :: s24 :: s25 :: s26 :: s27 :: s28 :: s29 :: s30 :: s31 :: s32 :: s33 :: ([] : List Value)).toArray, defers := [] } w0 := by
  refine wp_region_est (by kernel_rfl) (est2 10 0 (fun k => k = G) (fun _ => False)) in_C (in_F w0 bx gi G p b0 o0 nv cv n m0 c0 A0 Ax cx x fs) (est2_dis (fun k h1 h2 => h2)) (est2_range (fun k h => by have := hin.lt; omega) (fun k h => h.elim)) (by rfl) (by kernel_rfl) (in_obs w0.drew bx gi G p b0 o0 nv cv n m0 c0 A0 Ax cx x fs hx2 hx3 hx4 hbG hgG hpG hb0 hb0G hc0 hc1 hc2 (LvS.later hx (below_drew (Below.refl _ _))) hs (hin.same rfl fun _ _ _ => rfl) hn hl _ _ rfl rfl rfl) ?_
  intro a w' O hd hs hb hf hf2 ha hsame
  have hx : ∀ (qi : Nat) (qv : Value), nwB in_ops.toArray qi = true → (s0 :: s1 :: (.pointer (some ⟨bx, 0, none⟩) : Value) :: (.pointer (some ⟨gi, 0, none⟩) : Value) :: (.pointer (some ⟨p, 0, none⟩) : Value) :: s5 :: s6 :: s7 :: s8 :: s9 :: s10 :: s11 :: s12 :: s13 :: s14 :: s15 :: s16 :: s17 :: s18 :: s19 :: s20 :: s21 :: s22 :: s23 :: s24 :: s25 :: s26 :: s27 :: s28 :: s29 :: s30 :: s31 :: s32 :: s33 :: ([] : List Value)).toArray.getD qi undef = qv → a.tmps.getD qi undef = qv := fun qi qv h e => (hsame qi (nwB.spec h)).trans e
  have x0 := hx 0 s0 (by kernel_rfl) rfl
  have x1 := hx 1 s1 (by kernel_rfl) rfl
  have x2 := hx 2 (.pointer (some ⟨bx, 0, none⟩)) (by kernel_rfl) rfl
  have x3 := hx 3 (.pointer (some ⟨gi, 0, none⟩)) (by kernel_rfl) rfl
  have x4 := hx 4 (.pointer (some ⟨p, 0, none⟩)) (by kernel_rfl) rfl
  have x5 := hx 5 s5 (by kernel_rfl) rfl
  have x6 := hx 6 s6 (by kernel_rfl) rfl
  have x7 := hx 7 s7 (by kernel_rfl) rfl
  have x8 := hx 8 s8 (by kernel_rfl) rfl
  have x9 := hx 9 s9 (by kernel_rfl) rfl
  have x10 := hx 10 s10 (by kernel_rfl) rfl
  have x11 := hx 11 s11 (by kernel_rfl) rfl
  have x12 := hx 12 s12 (by kernel_rfl) rfl
  have x13 := hx 13 s13 (by kernel_rfl) rfl
  have x14 := hx 14 s14 (by kernel_rfl) rfl
  have x15 := hx 15 s15 (by kernel_rfl) rfl
  have x16 := hx 16 s16 (by kernel_rfl) rfl
  have x17 := hx 17 s17 (by kernel_rfl) rfl
  have x18 := hx 18 s18 (by kernel_rfl) rfl
  have x19 := hx 19 s19 (by kernel_rfl) rfl
  have x20 := hx 20 s20 (by kernel_rfl) rfl
  have x21 := hx 21 s21 (by kernel_rfl) rfl
  have x22 := hx 22 s22 (by kernel_rfl) rfl
  have x23 := hx 23 s23 (by kernel_rfl) rfl
  have x24 : a.tmps.getD 24 undef = .slice (some ⟨G, 0, none⟩) nv nv := (hf 0 _ 24 rfl rfl (by decide)).1
  have x25 : a.tmps.getD 25 undef = .pointer (some ⟨p, 1, none⟩) := (hf 1 _ 25 rfl rfl (by decide)).1
  have x26 : a.tmps.getD 26 undef = .int .i64 n := (hf 2 _ 26 rfl rfl (by decide)).1
  have x27 : a.tmps.getD 27 undef = .slice (some ⟨b0, o0, none⟩) nv cv := (hf 3 _ 27 rfl rfl (by decide)).1
  have x28 : a.tmps.getD 28 undef = .pointer (some ⟨p, 1, none⟩) := (hf 4 _ 28 rfl rfl (by decide)).1
  have x29 : a.tmps.getD 29 undef = .int .i64 n := (hf 5 _ 29 rfl rfl (by decide)).1
  have x30 : a.tmps.getD 30 undef = .pointer (some ⟨b0, o0 + n * 3, none⟩) := (hf 6 _ 30 rfl rfl (by decide)).1
  have x31 : a.tmps.getD 31 undef = .agg #[.int .i64 x.kind, .int .i64 x.num, .slice Ax x.kids.length cx] := (hf 7 _ 31 rfl rfl (by decide)).1
  have x33 : a.tmps.getD 33 undef = .pointer (some ⟨G, n * 2, none⟩) := (hf 9 _ 33 rfl rfl (by decide)).1
  have hl : a.tmps = (s0 :: s1 :: (.pointer (some ⟨bx, 0, none⟩) : Value) :: (.pointer (some ⟨gi, 0, none⟩) : Value) :: (.pointer (some ⟨p, 0, none⟩) : Value) :: s5 :: s6 :: s7 :: s8 :: s9 :: s10 :: s11 :: s12 :: s13 :: s14 :: s15 :: s16 :: s17 :: s18 :: s19 :: s20 :: s21 :: s22 :: s23 :: (.slice (some ⟨G, 0, none⟩) nv nv : Value) :: (.pointer (some ⟨p, 1, none⟩) : Value) :: (.int .i64 n : Value) :: (.slice (some ⟨b0, o0, none⟩) nv cv : Value) :: (.pointer (some ⟨p, 1, none⟩) : Value) :: (.int .i64 n : Value) :: (.pointer (some ⟨b0, o0 + n * 3, none⟩) : Value) :: (.agg #[.int .i64 x.kind, .int .i64 x.num, .slice Ax x.kids.length cx] : Value) :: (a.tmps.getD 32 undef : Value) :: (.pointer (some ⟨G, n * 2, none⟩) : Value) :: ([] : List Value)).toArray := by
    have h := lit a.tmps 34 hs
    have e : ((List.range 34).map (fun i => a.tmps.getD i undef)).toArray = ((a.tmps.getD 0 undef : Value) :: (a.tmps.getD 1 undef : Value) :: (a.tmps.getD 2 undef : Value) :: (a.tmps.getD 3 undef : Value) :: (a.tmps.getD 4 undef : Value) :: (a.tmps.getD 5 undef : Value) :: (a.tmps.getD 6 undef : Value) :: (a.tmps.getD 7 undef : Value) :: (a.tmps.getD 8 undef : Value) :: (a.tmps.getD 9 undef : Value) :: (a.tmps.getD 10 undef : Value) :: (a.tmps.getD 11 undef : Value) :: (a.tmps.getD 12 undef : Value) :: (a.tmps.getD 13 undef : Value) :: (a.tmps.getD 14 undef : Value) :: (a.tmps.getD 15 undef : Value) :: (a.tmps.getD 16 undef : Value) :: (a.tmps.getD 17 undef : Value) :: (a.tmps.getD 18 undef : Value) :: (a.tmps.getD 19 undef : Value) :: (a.tmps.getD 20 undef : Value) :: (a.tmps.getD 21 undef : Value) :: (a.tmps.getD 22 undef : Value) :: (a.tmps.getD 23 undef : Value) :: (a.tmps.getD 24 undef : Value) :: (a.tmps.getD 25 undef : Value) :: (a.tmps.getD 26 undef : Value) :: (a.tmps.getD 27 undef : Value) :: (a.tmps.getD 28 undef : Value) :: (a.tmps.getD 29 undef : Value) :: (a.tmps.getD 30 undef : Value) :: (a.tmps.getD 31 undef : Value) :: (a.tmps.getD 32 undef : Value) :: (a.tmps.getD 33 undef : Value) :: ([] : List Value)).toArray := rfl
    rw [e, x0, x1, x2, x3, x4, x5, x6, x7, x8, x9, x10, x11, x12, x13, x14, x15, x16, x17, x18, x19, x20, x21, x22, x23, x24, x25, x26, x27, x28, x29, x30, x31, x33] at h
    exact h
  obtain ⟨tmps, defers⟩ := a
  obtain rfl : defers = [] := hd
  have hl' : tmps = _ := hl
  rw [hl']
  obtain ⟨⟨v10, hv10⟩, ho10⟩ := hf2 10 _ rfl rfl (by decide)
  have hb' := est2_chg hb
  exact hend w' _ v10 (O 10) ⟨hb'.os, hb'.tape, hb'.output, hb'.size, hb'.block⟩ hv10 ho10

end Go.Proofs.Ytjlhbaohippidaa

/-! InW -/
namespace Go.Proofs.Ytjlhbaohippidaa
open Go.RowKit Go.Proofs.YtjlhbaohippidaaW.PrintWords Go.RegionInvYtjlhbaohippidaa Go.RegionEYtjlhbaohippidaa

theorem instF_no {vs : List Lv} {k n : Int} {fs : List Nf} (h : ¬ (k = 2 ∧ n < vs.length)) : instF vs k n fs = (0, fs) := if_neg h
theorem instF_bad {vs : List Lv} {k n : Int} {fs : List Nf} (h : k = 2 ∧ n < vs.length) (hs : soundB (lvAt vs n) = false) : instF vs k n fs = (1, fs) := by
  unfold instF; rw [if_pos h, if_neg (by rw [hs]; decide)]
theorem instF_ok {vs : List Lv} {k n : Int} {fs : List Nf} (h : k = 2 ∧ n < vs.length) (hs : soundB (lvAt vs n) = true) : instF vs k n fs = (0, fs.set n.toNat (sumP (lvAt vs n))) := by
  unfold instF; rw [if_pos h, if_pos hs]
theorem lvAt_get {vs : List Lv} {i : Nat} {x : Lv} (h : vs[i]? = some x) : lvAt vs i = x := by
  unfold lvAt; rw [Int.toNat_natCast, List.getD_eq_getElem?_getD, h]; rfl
/-- What a call of the visit, or of the walk, leaves. -/
def InPost (w : World) (G : Nat) (r : Int × List Nf) (e : Ending) (w' : World) : Prop := e = .returned (.int .i64 r.1) ∧ InAt w' (fun k => G < k) G r.2 ∧ Chg (fun k => k = G) w w'
/-- What the visit is told: where the levels lie and where the sums go. -/
structure InK (w : World) (bx gi G : Nat) (Av : Option Addr) (nv cv : Nat) (vs : List Lv) : Prop where
  box : w.heap[bx]? = some (.cells #[.slice Av nv cv] 22 (0, 0))
  row : w.heap[gi]? = some (.cells #[.slice (some ⟨G, 0, none⟩) nv nv] 59 (0, 0))
  ne : bx < G
  gi_ : gi = G + 1
  vs_ : LvS w (fun k => k < bx) Av cv (.mk 0 0 vs)
  len : nv = vs.length
theorem InK.later {w w' : World} {bx gi G : Nat} {Av : Option Addr} {nv cv : Nat} {vs : List Lv} (h : InK w bx gi G Av nv cv vs) (hc : Chg (fun k => k = G) w w') : InK w' bx gi G Av nv cv vs :=
  ⟨(hc.block _ (blk_lt h.box) (by have := h.ne; omega)).trans h.box, (hc.block _ (blk_lt h.row) (by have := h.gi_; omega)).trans h.row, h.ne, h.gi_, h.vs_.same fun k hk hz => hc.block k hz (by have := h.ne; omega), h.len⟩
theorem inAt_later {w w' : World} {G : Nat} {fs : List Nf} (h : InAt w (fun k => G < k) G fs) (hb : Below w.heap.size w w') : InAt w' (fun k => G < k) G fs :=
  h.same (hb.block G h.lt) fun k _ hz => hb.block k hz
theorem in_made {w0 w' : World} {G : Nat} {O : Nat → Prop} {fs : List Nf} (h : InAt w' (fun k => (G < k ∧ k < w0.heap.size) ∨ (O k ∧ ¬ k = G)) G fs) (hG : G < w0.heap.size)
    (hO : ∀ k, O k → k < w'.heap.size ∧ ¬ Fix w0 (est2 10 0 (fun k => k = G) (fun _ => False)) k) : InAt w' (fun k => G < k) G fs :=
  h.mono fun k hk _ => hk.elim And.left fun hk => by
    by_cases hz : k < w0.heap.size
    · exact absurd (est2_fix hz hk.2 (fun h => h)) (hO k hk.1).2
    · show G < k; omega
set_option maxHeartbeats 4000000 in
theorem inst1_calls (vs : List Lv) (Av : Option Addr) (nv cv : Nat) (k n : Int) (A : Option Addr) (m c : Nat) (d : Int) (bx gi G : Nat) (fs : List Nf) (w : World) (hK : InK w bx gi G Av nv cv vs) (hin : InAt w (fun k => G < k) G fs) (hl : fs.length = nv) (hn0 : 0 ≤ n ∨ k ≠ 2) :
    Calls Try.prog 42 #[.agg #[.int .i64 k, .int .i64 n, .slice A m c], .int .i64 d, .pointer (some ⟨bx, 0, none⟩), .pointer (some ⟨gi, 0, none⟩)] w (InPost w G (instF vs k n fs)) := by
  obtain ⟨w1, hw1⟩ : ∃ w1, w1 = w.alloc (.cells #[.int .i64 k, .int .i64 n, .slice A m c] 24 (0, 0)) := ⟨_, rfl⟩
  have hb1 : Below w.heap.size w w1 := by rw [hw1]; exact below_alloc (Below.refl _ _) _
  have hx1 : w1.heap[w.heap.size]? = some (.cells #[.int .i64 k, .int .i64 n, .slice A m c] 24 (0, 0)) := by rw [hw1]; exact blk_new w _
  have hC1 : Chg (fun k => k = G) w w1 := Chg.of_below hb1
  have hK1 : InK w1 bx gi G Av nv cv vs := hK.later hC1
  have hGz := hin.lt
  have HIN := Aside0.mk (inAt_later hin hb1)
  have HC := Aside0.mk hC1
  have HK := Aside0.mk hK1
  have HX := Aside0.mk hx1
  have HL := Aside0.mk hl
  have HN := Aside0.mk hK.len
  have hr2 : w1.cell? ⟨bx, 0, none⟩ = some (.slice Av nv cv) := by rw [cell_of_row _ _ _ _ _ _ hK1.box]; rfl
  obtain ⟨p0, p1, p2, -, -, -⟩ := row3 hx1
  clear hK1 hx1 hl hK hin hb1 hC1
  go_enter Try.func42, Try.ntmps42
  go_upto_region 1 with (fail)
  rw [← hw1]
  clear hw1
  by_cases hk : k = 2
  · subst hk
    by_cases hn : n < nv
    · obtain ⟨i, rfl⟩ := Int.eq_ofNat_of_zero_le (hn0.resolve_right fun h => h rfl)
      have hi : i < nv := by omega
      obtain ⟨x, hx⟩ : ∃ x, vs[i]? = some x := ⟨_, List.getElem?_eq_getElem (by rw [← HN.out]; exact hi)⟩
      obtain ⟨Ax, cx, hcs, hlx⟩ := HK.out.vs_.kid i x hx
      obtain ⟨⟨b0, o0, sp⟩, rfl, hS, hsp, h1, h2, h3⟩ := hcs
      obtain rfl : sp = none := hsp
      rw [add_flat] at h1 h2 h3
      have g2 : w1.cell? ⟨b0, o0 + i * 3 + 1, none⟩ = some (.int .i64 x.num) := h2
      have g3 : w1.cell? ⟨b0, o0 + i * 3 + 2, none⟩ = some (.slice Ax x.kids.length cx) := h3
      clear h2 h3
      have HX0 := Aside0.mk hlx
      have HLV := Aside0.mk (lvAt_get hx)
      have hb0 : b0 < bx := hS
      have hnb : decide ((nv : Int) ≤ (i : Int)) = false := decide_eq_false (by omega)
      clear hx hlx hS hn
      have HCN := Aside0.mk (show (2 : Int) = 2 ∧ (i : Int) < vs.length from ⟨rfl, by rw [← HN.out]; omega⟩)
      cases hs : soundB x with
      | false =>
        have HS := Aside0.mk hs
        have HE := Aside0.mk (instF_bad (fs := fs) HCN.out (by rw [HLV.out]; exact hs))
        clear hs
        go_wp2_with (go_at_call 33; go_must (refine (sound_calls Ax cx x _ (LvS.all HX0.out)).mono ?_; rintro e w2 ⟨rfl, hb⟩; rw [HS.out]; have HIN2 := Aside0.mk (inAt_later HIN.out hb); have HC2 := Aside0.mk (chg_trans HC.out (Chg.of_below hb)); clear hb))
        go_ret
        rw [HE.out]
        exact ⟨rfl, HIN2.out, HC2.out⟩
      | true =>
        have HS := Aside0.mk hs
        have HE := Aside0.mk (show instF vs 2 (i : Int) fs = (0, fs.set i (sumP x)) by rw [instF_ok (fs := fs) HCN.out (by rw [HLV.out]; exact hs), HLV.out, Int.toNat_natCast])
        clear hs
        have H1 := Aside0.mk h1
        have H2 := Aside0.mk g2
        have H3 := Aside0.mk g3
        have hb0z := blk_lt HK.out.box
        go_upto_region 5 with (go_at_call 33; go_must (refine (sound_calls Ax cx x _ (LvS.all HX0.out)).mono ?_; rintro e w2 ⟨rfl, hb⟩; rw [HS.out]; have hcc : ∀ j, w2.cell? ⟨b0, j, none⟩ = w1.cell? ⟨b0, j, none⟩ := fun j => cell_same (hb.block b0 (by omega)); have HIN2 := Aside0.mk (inAt_later HIN.out hb); have HC2 := Aside0.mk (chg_trans HC.out (Chg.of_below hb)); have HK2 := Aside0.mk (HK.out.later (Chg.of_below hb)); have HX2 := Aside0.mk (blk_below HX.out hb); have HX02 := Aside0.mk (HX0.out.later hb); have Q1 := Aside0.mk ((hcc _).trans H1.out); have Q2 := Aside0.mk ((hcc _).trans H2.out); have Q3 := Aside0.mk ((hcc _).trans H3.out); have hz2 := hb.size; clear hb hcc))
        have hne := HK2.out.ne
        have hgi := HK2.out.gi_
        have hbz := blk_lt HK2.out.box
        have hz1 := blk_lt HX.out
        refine in_region w2 bx gi G w.heap.size b0 o0 nv cv i m c A Ax cx x fs HK2.out.box HK2.out.row HX2.out (by omega) (by omega) (by omega) (by omega) (by omega) Q1.out Q2.out Q3.out (HX02.out.mono fun k hk hz => ⟨hz, by omega⟩) HS.out (HIN2.out.mono fun k hk hz => ⟨hk, hz⟩) hi HL.out ?_
        rintro w6 u32 v10 O10 hch ⟨hia, -⟩ hO
        have HIN6 := Aside0.mk (in_made (w0 := w2) hia (by omega) hO)
        have HC6 := Aside0.mk (chg_trans HC2.out (hch.mono fun k h => h.elim id False.elim))
        clear hia hO hch
        go_wp2
        go_ret
        rw [HE.out]
        exact ⟨rfl, HIN6.out, HC6.out⟩
    · have HE := Aside0.mk (instF_no (vs := vs) (k := 2) (n := n) (fs := fs) fun h => hn (by rw [HN.out]; exact h.2))
      have hnb : decide ((nv : Int) ≤ n) = true := decide_eq_true (by omega)
      clear hn
      go_wp2
      go_ret
      rw [HE.out]
      exact ⟨rfl, HIN.out, HC.out⟩
  · have HE := Aside0.mk (instF_no (vs := vs) (k := k) (n := n) (fs := fs) fun h => hk h.1)
    have hkb : (k != 2) = true := by simp [hk]
    clear hk
    go_wp2
    go_ret
    rw [HE.out]
    exact ⟨rfl, HIN.out, HC.out⟩
end Go.Proofs.Ytjlhbaohippidaa

/-! InU -/
namespace Go.Proofs.Ytjlhbaohippidaa
open Go.RowKit Go.Proofs.YtjlhbaohippidaaW.PrintWords Go.RegionInvYtjlhbaohippidaa Go.RegionEYtjlhbaohippidaa

abbrev instC (bx gi : Nat) : Value := .func (.func 42) #[] #[.pointer (some ⟨bx, 0, none⟩), .pointer (some ⟨gi, 0, none⟩)]
theorem good_n0 {k n : Int} {ks : List Lv} (h : Good (.mk k n ks)) : 0 ≤ n ∨ k ≠ 2 := by
  rcases good_cases h with ⟨rfl, _, h0, _⟩ | ⟨rfl, _, h0, _⟩ | ⟨rfl, _, _, h0, _⟩ | ⟨rfl, _⟩
  · exact .inl h0
  · exact .inl h0
  · exact .inl (by omega)
  · exact .inr (by decide)
theorem good_kid {k n : Int} {ks : List Lv} {i : Nat} {x : Lv} (h : Good (.mk k n ks)) (hx : ks[i]? = some x) : Good x := by
  cases h with
  | mk _ hk => exact hk x (List.mem_of_getElem? hx)
theorem inst1_at (vs : List Lv) (Av : Option Addr) (nv cv : Nat) (k n : Int) (ks : List Lv) (A : Option Addr) (m c : Nat) (d : Int) (bx gi G : Nat) (fs : List Nf) (w : World) (hg : Good (.mk k n ks)) (hK : InK w bx gi G Av nv cv vs) (hin : InAt w (fun k => G < k) G fs) (hl : fs.length = nv) :
    Calls Try.prog 42 #[.agg #[.int .i64 k, .int .i64 n, .slice A m c], .int .i64 d, .pointer (some ⟨bx, 0, none⟩), .pointer (some ⟨gi, 0, none⟩)] w (InPost w G (instF vs k n fs)) :=
  inst1_calls vs Av nv cv k n A m c d bx gi G fs w hK hin hl (good_n0 hg)
set_option maxHeartbeats 4000000 in
theorem walk_inst (vs : List Lv) (Av : Option Addr) (nv cv bx gi G : Nat) (N : Nat) : ∀ (l : Lv), SizeOf.sizeOf l < N → Good l → ∀ (A : Option Addr) (c : Nat) (d : Int) (fs : List Nf) (w : World), LvIn w bx A c l → InK w bx gi G Av nv cv vs → InAt w (fun k => G < k) G fs → fs.length = nv →
    Calls Try.prog 27 #[lvV A c l, .int .i64 d, instC bx gi] w (InPost w G (instP vs l fs)) := by
  induction N with
  | zero => intro l h; omega
  | succ N ih =>
    rintro ⟨lk, ln, ks⟩ hN hgood A c d fs w hin hK hI hl
    have IH := Aside0.mk ih
    have HIN := Aside0.mk hin
    have HK := Aside0.mk hK
    have HI := Aside0.mk hI
    have HL := Aside0.mk hl
    have HGD := Aside0.mk hgood
    have hGz := hI.lt
    have hbG := hK.ne
    have hlen := hin.len
    simp only [Lv.kids] at hlen
    have hl9 : ks.length ≤ 9223372036854775807 := by omega
    clear ih hin hK hI hl hgood hlen
    unfold instC lvV
    simp only [Lv.kind, Lv.num, Lv.kids]
    obtain ⟨m, hm⟩ : ∃ m, m = ks.length := ⟨_, rfl⟩
    rw [← hm] at hl9 ⊢
    have HM := Aside0.mk hm
    clear hm
    go_enter Try.func27, Try.ntmps27
    have hba : ∀ o : Obj, Below w.heap.size w (w.alloc o) := fun o => below_alloc (Below.refl _ _) _
    have HBA := Aside0.mk hba
    clear hba
    obtain ⟨e0, fs0, hes⟩ : ∃ a b, instF vs lk ln fs = (a, b) := ⟨_, _, rfl⟩
    have HV := Aside0.mk hes
    have HL0 := Aside0.mk (show fs0.length = nv by have := instF_len vs lk ln fs; rw [hes] at this; exact this.trans HL.out)
    by_cases h1 : e0 = 0
    · subst h1
      have HE := Aside0.mk (show instP vs (.mk lk ln ks) fs = instKs vs ks fs0 by rw [instP_go (by rw [hes]), hes])
      clear hes
      go_wp2_with (go_at_call 42; go_must (refine (inst1_at vs Av nv cv lk ln ks A m c d bx gi G fs _ HGD.out (HK.out.later (Chg.of_below (HBA.out _))) (inAt_later HI.out (HBA.out _)) HL.out).mono ?_; rintro e w1 ⟨rfl, hg1, hc1⟩; rw [HV.out] at hg1 ⊢; have HI1 := Aside0.mk hg1; have hbox := chg_cell hc1 (box_cell w #[.int .i64 lk, .int .i64 ln, .slice A m c] 24 2 _ rfl) (Nat.ne_of_gt hGz); have HC1 := Aside0.mk (chg_trans (chg_alloc _ _ _) hc1); clear hg1 hc1))
      go_loopw [21] (fun i wr => ∃ (k : Nat) (fs' : List Nf), i = .int .i64 k ∧ k ≤ m ∧ Aside0 (fs'.length = nv) ∧ Aside0 (instKs vs (ks.drop k) fs' = instP vs (.mk lk ln ks) fs) ∧ Aside0 (InAt wr (fun k => G < k) G fs') ∧ Aside0 (Chg (fun k => k = G) w wr)) (fun i _ => m - (intOf i).toNat)
      case atStart => exact ⟨0, fs0, rfl, Nat.zero_le _, HL0, ⟨HE.out.symm⟩, HI1, HC1⟩
      case round =>
        clear HE HV HI1 HC1 hbox
        obtain ⟨k, fs', rfl, hk, HL1, HE, HI1, HC1⟩ := hrel
        have HIN2 := Aside0.mk (LvIn.stay HIN.out (chg_below HC1.out (Nat.le_of_lt hbG) (Nat.le_of_lt (Nat.lt_of_lt_of_le (Nat.lt_trans hbG hGz) (Nat.le_refl _)))))
        have HK2 := Aside0.mk (HK.out.later HC1.out)
        by_cases hlt : k < m
        · have hlt2 : k < ks.length := by rw [← HM.out]; exact hlt
          obtain ⟨x, hx⟩ : ∃ x, ks[k]? = some x := ⟨_, List.getElem?_eq_getElem hlt2⟩
          obtain ⟨A', c', hcs, hin⟩ := HIN2.out.kid k x hx
          obtain ⟨ad, rfl, hc1, hc2, hc3⟩ := hcs.facts
          clear hcs
          have HX := Aside0.mk hx
          have HXIN := Aside0.mk hin
          have HXG := Aside0.mk (good_kid HGD.out hx)
          clear hx hin hlt2
          have hG2 := HI1.out.lt
          have HBB := Aside0.mk (show ∀ o : Obj, Below wr.heap.size wr (wr.alloc o) from fun o => below_alloc (Below.refl _ _) _)
          obtain ⟨e2, fs2, hes⟩ : ∃ a b, instP vs x fs' = (a, b) := ⟨_, _, rfl⟩
          have HV := Aside0.mk hes
          by_cases h2 : e2 = 0
          · subst h2
            have HKK := Aside0.mk (show instKs vs (ks.drop (k + 1)) fs2 = instP vs (.mk lk ln ks) fs by rw [← HE.out, drop_kid HX.out, instKs_go (by rw [hes]), hes])
            have HL2 := Aside0.mk (show fs2.length = nv by have := inst_len vs x fs'; rw [hes] at this; exact this.trans HL1.out)
            clear hes
            go_wp2_with (go_at_call 27; go_must (refine (IH.out x (Nat.lt_of_lt_of_le (kid_small HX.out) (Nat.le_of_lt_succ hN)) HXG.out A' c' _ fs' _ (LvIn.stay HXIN.out ((Below.refl _ _).alloc (Nat.le_of_lt (Nat.lt_trans hbG hG2)) _)) (HK2.out.later (Chg.of_below (HBB.out _))) (inAt_later HI1.out (HBB.out _)) HL1.out).mono ?_; rintro e w2 ⟨rfl, hg1, hc1⟩; rw [HV.out] at hg1 ⊢; have HI2 := Aside0.mk hg1; have HC2 := Aside0.mk (chg_trans HC1.out (chg_trans (chg_alloc _ _ _) hc1)); clear hg1 hc1))
            go_roundw
            case rel => exact ⟨k + 1, fs2, by go_num, by omega, HL2, HKK, HI2, HC2⟩
            case measure => (simp [intOf]; try omega)
          · have HKK := Aside0.mk (show (e2, fs2) = instP vs (.mk lk ln ks) fs by rw [← HE.out, drop_kid HX.out, instKs_stop (by rw [hes]; exact h2), hes])
            have h2' : (e2 != 0) = true := by simpa using h2
            clear hes h2
            go_wp2_with (go_at_call 27; go_must (refine (IH.out x (Nat.lt_of_lt_of_le (kid_small HX.out) (Nat.le_of_lt_succ hN)) HXG.out A' c' _ fs' _ (LvIn.stay HXIN.out ((Below.refl _ _).alloc (Nat.le_of_lt (Nat.lt_trans hbG hG2)) _)) (HK2.out.later (Chg.of_below (HBB.out _))) (inAt_later HI1.out (HBB.out _)) HL1.out).mono ?_; rintro e w2 ⟨rfl, hg1, hc1⟩; rw [HV.out] at hg1 ⊢; have HI2 := Aside0.mk hg1; have HC2 := Aside0.mk (chg_trans HC1.out (chg_trans (chg_alloc _ _ _) hc1)); clear hg1 hc1))
            go_ret
            rw [← HKK.out]
            exact ⟨rfl, HI2.out, HC2.out⟩
        · obtain rfl : k = m := by omega
          have hlt' : decide ((k : Int) < k) = false := by simp
          have HW := Aside0.mk (show instP vs (.mk lk ln ks) fs = (0, fs') by rw [← HE.out, List.drop_of_length_le (by rw [← HM.out]; exact Nat.le_refl _), instKs])
          go_wp2
          go_ret
          rw [HW.out]
          exact ⟨rfl, HI1.out, HC1.out⟩
    · have HE := Aside0.mk (show instP vs (.mk lk ln ks) fs = (e0, fs0) by rw [instP_stop (by rw [hes]; exact h1), hes])
      have h1' : (e0 != 0) = true := by simp [h1]
      clear h1 hes
      go_wp2_with (go_at_call 42; go_must (refine (inst1_at vs Av nv cv lk ln ks A m c d bx gi G fs _ HGD.out (HK.out.later (Chg.of_below (HBA.out _))) (inAt_later HI.out (HBA.out _)) HL.out).mono ?_; rintro e w1 ⟨rfl, hg1, hc1⟩; rw [HV.out] at hg1 ⊢; have HI1 := Aside0.mk hg1; have HC1 := Aside0.mk (chg_trans (chg_alloc _ _ _) hc1); clear hg1 hc1))
      go_ret
      rw [HE.out]
      exact ⟨rfl, HI1.out, HC1.out⟩
end Go.Proofs.Ytjlhbaohippidaa

/-! InV -/
namespace Go.Proofs.Ytjlhbaohippidaa
open Go.RowKit Go.Proofs.YtjlhbaohippidaaW.PrintWords Go.RegionInvYtjlhbaohippidaa Go.RegionEYtjlhbaohippidaa

theorem infoNorm : (Try.prog.info? 52).map (fun i => (i.zero, i.size, i.bytes)) = some (some (.agg #[.int .i64 0, .slice none 0 0]), 2, 32) := by kernel_rfl
theorem norm_make (m : Nat) (hm : m ≤ 1000) : ∀ W : World, (Instr.makeSlice 59 (.int .i64 (m : Int)) (.int .i64 (m : Int))).run Try.prog W = .ok (.slice (some ⟨W.heap.size, 0, none⟩) m m) (W.alloc (.cells (madeCells #[.int .i64 0, .slice none 0 0] (m * 2)) 52)) := by
  intro W
  obtain ⟨i, hi, he⟩ := Option.map_eq_some_iff.1 infoNorm
  simp only [Prod.mk.injEq] at he
  obtain ⟨h1, h2, h3⟩ := he
  have := run_make (P := Try.prog) W 59 52 i _ Try.underlying59 hi h1 .i64 .i64 m m (by omega) (Int.le_refl _) (by rw [h3]; omega) (by omega)
  rw [h2] at this
  simpa only [Int.toNat_natCast, show (Value.agg #[.int .i64 0, .slice none 0 0]).cells = #[.int .i64 0, .slice none 0 0] from rfl] using this
theorem in_new (w : World) (S : Nat → Prop) (nv : Nat) : InAt (w.alloc (.cells (madeCells #[.int .i64 0, .slice none 0 0] (nv * 2)) 52)) S w.heap.size (List.replicate nv (0, [])) := by
  refine ⟨_, blk_new w _, by simp [size_madeCells], fun i f hf => ?_⟩
  obtain ⟨hi, rfl⟩ := List.getElem?_eq_some_iff.1 hf
  simp only [List.length_replicate] at hi
  simp only [List.getElem_replicate, List.length_nil]
  refine ⟨none, 0, ?_, ?_, Nat.le_refl _, IntsS.nil _ _⟩
  · rw [Array.getElem?_eq_getElem (by simp [size_madeCells]; omega)]
    simp [madeCells]
  · rw [Array.getElem?_eq_getElem (by simp [size_madeCells]; omega)]
    simp [madeCells, Nat.add_mod]
/-! ### sums that may be -/
def NfL (f : Nf) : Prop := NfOk f ∧ f.2.length ≤ 1001
theorem sum_nfl {l : Lv} (h : soundB l = true) : NfL (sumP l) := ⟨sumP_ok h, len_le (good_of_sound h)⟩
theorem zero_nfl : NfL (0, []) := ⟨⟨(by decide), (by decide), (fun x hx => by simp at hx), (by simp)⟩, (by simp)⟩
theorem instF_nfl (vs : List Lv) (k n : Int) {fs : List Nf} (h : ∀ f ∈ fs, NfL f) : ∀ f ∈ (instF vs k n fs).2, NfL f := by
  unfold instF
  split
  · split
    · rename_i hs
      intro f hf
      rcases List.mem_or_eq_of_mem_set hf with hf | rfl
      · exact h f hf
      · exact sum_nfl hs
    · exact h
  · exact h
mutual
theorem inst_nfl (vs : List Lv) : (l : Lv) → (fs : List Nf) → (∀ f ∈ fs, NfL f) → ∀ f ∈ (instP vs l fs).2, NfL f
  | .mk k n ks, fs, h => by
    rw [instP]; split
    · exact instF_nfl vs k n h
    · exact insts_nfl vs ks _ (instF_nfl vs k n h)
theorem insts_nfl (vs : List Lv) : (ks : List Lv) → (fs : List Nf) → (∀ f ∈ fs, NfL f) → ∀ f ∈ (instKs vs ks fs).2, NfL f
  | [], fs, h => by rw [instKs]; exact h
  | x :: r, fs, h => by
    rw [instKs]; split
    · exact inst_nfl vs x fs h
    · exact insts_nfl vs r _ (inst_nfl vs x fs h)
end
theorem ofP_len {fs : List Nf} (hfs : ∀ f ∈ fs, NfL f) {l : Lv} (h : Good l) : (ofP fs l).2.length ≤ 1001 := by
  induction h with
  | @mk k n ks h hk ih =>
    rcases good_cases (.mk h hk) with ⟨rfl, rfl, h0, h1⟩ | ⟨rfl, rfl, h0, h1⟩ | ⟨rfl, x, rfl, h0, h1, -⟩ | ⟨rfl, x, y, rfl, -, -⟩
    · rw [ofP_num]; simp
    · rw [ofP_var]
      unfold varN
      split
      · rw [List.getD_eq_getElem?_getD]
        cases e : fs[n.toNat]? with
        | none => simp
        | some f => exact (hfs f (List.mem_of_getElem? e)).2
      · simp; omega
    · have := ih x (by simp)
      rw [ofP_succ]
      simpa [plusN] using this
    · have hx := ih x (by simp)
      have hy := ih y (by simp)
      rw [ofP_max, or_len]
      omega
theorem ofP_nfl {fs : List Nf} (hfs : ∀ f ∈ fs, NfL f) {l : Lv} (h : Good l) : NfL (ofP fs l) := ⟨ofP_ok (fun f hf => (hfs f hf).1) h, ofP_len hfs h⟩
theorem of_at (S : Nat → Prop) (Av : Option Addr) (nv cv : Nat) (fs : List Nf) (hl : fs.length = nv) (hfs : ∀ f ∈ fs, NfOk f) (hlen : nv ≤ 9223372036854775807) (l : Lv) (hg : Good l) (A : Option Addr) (c : Nat) (w : World) (hin : LvIn w w.heap.size A c l) (hf : NfsS w S Av fs) (hS : ∀ k, S k → k < w.heap.size) :
    Calls Try.prog 34 #[lvV A c l, .slice Av nv cv] w (NfGot w S (ofP fs l)) := by
  subst hl
  exact of_calls S Av cv fs hfs hlen _ l (Nat.lt_succ_self _) hg A c w hin hf hS
theorem zero_got (w w' : World) (hb : Below w.heap.size w w') : LvGot w (fun _ => False) (.mk 0 0 []) (.returned (.agg #[.int .i64 0, .int .i64 0, .slice none 0 0])) w' := ⟨none, 0, rfl, LvS.leaf _ _ _ _, hb⟩
set_option maxHeartbeats 4000000 in
theorem inst_calls (A : Option Addr) (c : Nat) (l : Lv) (Av : Option Addr) (nv cv : Nat) (vs : List Lv) (w : World) (hin : LvIn w w.heap.size A c l) (hv : LvIn w w.heap.size Av cv (.mk 0 0 vs)) (hn : nv = vs.length) (hn50 : nv ≤ 1000) :
    Calls Try.prog 23 #[lvV A c l, .slice Av nv cv] w (LvGot w (fun _ => False) (instL vs l)) := by
  have HIN := Aside0.mk hin
  have HV := Aside0.mk hv
  have HN := Aside0.mk hn
  have hl9 : l.kids.length ≤ 9223372036854775807 := by have := hin.len; omega
  have MK := norm_make nv hn50
  clear hin hv hn
  unfold lvV
  obtain ⟨w0, hw0⟩ : ∃ w0, w0 = ((w.alloc (.cells #[.int .i64 l.kind, .int .i64 l.num, .slice A l.kids.length c] 24 (0, 0))).alloc (.cells #[.slice Av nv cv] 22 (0, 0))).alloc (.cells #[.int .i64 0, .int .i64 0, .slice none 0 0] 24 (0, 0)) := ⟨_, rfl⟩
  have hb0 : Below w.heap.size w w0 := by rw [hw0]; exact below_alloc (below_alloc (below_alloc (Below.refl _ _) _) _) _
  have HX0 := Aside0.mk (show w0.heap[w.heap.size]? = some (.cells #[.int .i64 l.kind, .int .i64 l.num, .slice A l.kids.length c] 24 (0, 0)) by rw [hw0]; exact blk_alloc (box0 w _ _) _)
  have HV0 := Aside0.mk (show w0.heap[w.heap.size + 1]? = some (.cells #[.slice Av nv cv] 22 (0, 0)) by rw [hw0]; exact blk_alloc (box1 w _ _) _)
  have HY0 := Aside0.mk (show w0.heap[w.heap.size + 2]? = some (.cells #[.int .i64 0, .int .i64 0, .slice none 0 0] 24 (0, 0)) by rw [hw0]; simpa using blk_new ((w.alloc _).alloc _) _)
  have HB0 := Aside0.mk hb0
  clear hb0
  go_enter Try.func23, Try.ntmps23
  go_upto_region 1 with (fail)
  rw [← hw0]
  clear hw0
  obtain ⟨p0, p1, p2, -, -, -⟩ := row3 HX0.out
  cases hs : soundB l with
  | false =>
    have HS := Aside0.mk hs
    have HE := Aside0.mk (show instL vs l = .mk 0 0 [] by unfold instL; rw [if_neg (by rw [hs]; simp)])
    clear hs
    go_upto_region 2 with (first
      | (go_at_call 33; go_must (refine (sound_calls A c l _ (LvS.all (HIN.out.stay HB0.out))).mono ?_; rintro e w1 ⟨rfl, hb⟩; rw [HS.out]; have HB1 := Aside0.mk (below_then HB0.out HB0.out.size hb); have HY1 := Aside0.mk (blk_below HY0.out hb); obtain ⟨z0, z1, z2, q0, q1, q2⟩ := row3 HY1.out; clear hb)))
    go_wp2
    refine bodyPost_ret (results_c rfl _ _ (w.heap.size + 1 + 1) 24 #[.int .i64 0, .int .i64 0, .slice none 0 0] (0, 0) _ rfl (set3 HY1.out) Try.underlying24 rfl (by kernel_rfl)) rfl ?_
    rw [HE.out]
    exact zero_got _ _ (Chg.trans_below HB1.out (chg_set3 _ _ _ _ _) (fun _ e => by omega) HB1.out.size)
  | true =>
    have HS := Aside0.mk hs
    clear hs
    go_upto_region 4 with (first
      | (go_at_call 33; go_must (refine (sound_calls A c l _ (LvS.all (HIN.out.stay HB0.out))).mono ?_; rintro e w1 ⟨rfl, hb⟩; rw [HS.out]; have HB1 := Aside0.mk (below_then HB0.out HB0.out.size hb); have HX1 := Aside0.mk (blk_below HX0.out hb); have HV1 := Aside0.mk (blk_below HV0.out hb); have HY1 := Aside0.mk (blk_below HY0.out hb); obtain ⟨p0, p1, p2, -, -, -⟩ := row3 HX1.out; have pv := (show w1.cell? ⟨w.heap.size + 1, 0, none⟩ = some (.slice Av nv cv) by rw [cell_of_row _ _ _ _ _ _ HV1.out]; rfl); clear hb)))
    clear p0 p1 p2 pv MK
    obtain ⟨G, hG⟩ : ∃ G, G = w1.heap.size := ⟨_, rfl⟩
    have hyl := blk_lt HY1.out
    obtain ⟨w2, hw2⟩ : ∃ w2, w2 = (w1.alloc (.cells (madeCells #[.int .i64 0, .slice none 0 0] (nv * 2)) 52)).alloc (.cells #[.slice (some ⟨w1.heap.size, 0, none⟩) nv nv] 59) := ⟨_, rfl⟩
    have hb2 : Below w1.heap.size w1 w2 := by rw [hw2]; exact two_boxes _ _
    have hi2 : InAt w2 (fun k => G < k) G (List.replicate nv (0, [])) := by
      rw [hw2, hG]; exact (in_new w1 _ nv).same (by rw [blk_alloc (blk_new w1 _)]; exact (blk_new w1 _).symm) fun k _ hk => (below_alloc (Below.refl _ _) _).block k hk
    have hk2 : InK w2 (w.heap.size + 1) (G + 1) G Av nv cv vs := ⟨blk_below HV1.out hb2, by rw [hw2, hG]; exact box1 w1 _ _, by omega, rfl, LvIn.mono ((HV.out.stay HB1.out).stay (hb2.mono (by omega))) (Nat.le_succ _), HN.out⟩
    have HI2 := Aside0.mk hi2
    have HK2 := Aside0.mk hk2
    have HB2 := Aside0.mk (below_then HB1.out HB1.out.size hb2)
    have HX2 := Aside0.mk (blk_below HX1.out hb2)
    have HY2 := Aside0.mk (blk_below HY1.out hb2)
    rw [← hw2, ← hG]
    have HGZ := Aside0.mk (show w.heap.size + 3 ≤ G by omega)
    obtain ⟨p0, p1, p2, -, -, -⟩ := row3 HX2.out
    clear hw2 hb2 hi2 hk2 hG hyl
    obtain ⟨e3, fs3, hes⟩ : ∃ a b, instP vs l (List.replicate nv (0, [])) = (a, b) := ⟨_, _, rfl⟩
    have HV3 := Aside0.mk hes
    by_cases he : e3 = 0
    · subst he
      have HIE := Aside0.mk (show instL vs l = lvlN (shortN (ofP (vs.map sumP) l)) by unfold instL; rw [if_pos ⟨HS.out, by rw [← HN.out, hes]⟩])
      have HL3 := Aside0.mk (show fs3.length = nv by have := inst_len vs l (List.replicate nv (0, [])); rw [hes] at this; simpa using this)
      have HOF := Aside0.mk (show ofP fs3 l = ofP (vs.map sumP) l from inst_sum (good_of_sound HS.out) (List.replicate nv (0, [])) fs3 (by simp [HN.out]) (by rw [hes]) (by rw [hes]; exact ⟨rfl, fun _ _ h => h⟩))
      have HFS := Aside0.mk (show ∀ f ∈ fs3, NfL f by have := inst_nfl vs l (List.replicate nv (0, [])) (fun f hf => by rw [(List.mem_replicate.1 hf).2]; exact zero_nfl); rw [hes] at this; exact this)
      clear hes
      go_upto_region 7 with (first
        | (go_at_call 27; go_must (refine (walk_inst vs Av nv cv (w.heap.size + 1) (G + 1) G _ l (Nat.lt_succ_self _) (good_of_sound HS.out) A c 1 _ _ (LvIn.mono (HIN.out.stay HB2.out) (by omega)) HK2.out HI2.out (by simp)).mono ?_; rintro e w3 ⟨rfl, hi3, hc3⟩; rw [HV3.out] at hi3 ⊢; have HI3 := Aside0.mk hi3; have HK3 := Aside0.mk (HK2.out.later hc3); have HB3 := Aside0.mk (Chg.trans_below HB2.out hc3 (fun _ e => by have := HGZ.out; omega) HB2.out.size); have HX3 := Aside0.mk ((hc3.block _ (blk_lt HX2.out) (by have := HGZ.out; omega)).trans HX2.out); have HY3 := Aside0.mk ((hc3.block _ (blk_lt HY2.out) (by have := HGZ.out; omega)).trans HY2.out); obtain ⟨r0, r1, r2, -, -, -⟩ := row3 HX3.out; have pr := (show w3.cell? ⟨G + 1, 0, none⟩ = some (.slice (some ⟨G, 0, none⟩) nv nv) by rw [cell_of_row _ _ _ _ _ _ HK3.out.row]; rfl); clear hi3 hc3)))
      have HFO := Aside0.mk (ofP_nfl HFS.out (good_of_sound HS.out))
      have HNE := Aside0.mk (parts_ne HFO.out.1)
      have HSO := Aside0.mk (short_ok HFO.out.1)
      have HSL := Aside0.mk (Nat.le_trans (short_len_le _) HFO.out.2)
      have HGZ3 := Aside0.mk HI3.out.lt
      go_wp2_with (first
        | (go_at_call 34; go_must (refine (of_at (fun k => G ≤ k ∧ k < w3.heap.size) (some ⟨G, 0, none⟩) nv nv fs3 HL3.out (fun f hf => (HFS.out f hf).1) (by omega) l (good_of_sound HS.out) A c _ (LvS.all (HIN.out.stay HB3.out)) (HI3.out.nfs.mono fun k hk hz => ⟨by rcases hk with rfl | hk <;> omega, hz⟩) (fun k hk => hk.2)).mono ?_; rintro e w4 ⟨A2, n2, c2, rfl, hcap2, hi2, hb⟩; have HI4 := Aside0.mk hi2; have HCAP4 := Aside0.mk hcap2; have HB4 := Aside0.mk (below_then HB3.out HB3.out.size hb); have HY4 := Aside0.mk (blk_below HY3.out hb); clear hb hi2 hcap2))
        | (go_at_call 38; go_must (refine (short_calls (fun _ => True) A2 n2 c2 (ofP fs3 l).1 (ofP fs3 l).2 _ (HI4.out.mono fun _ _ _ => trivial) HCAP4.out).mono ?_; obtain ⟨f, hf⟩ : ∃ f, f = shortN ((ofP fs3 l).1, (ofP fs3 l).2) := ⟨_, rfl⟩; rw [← hf]; have HF := Aside0.mk hf; rintro e w5 ⟨A3, n3, c3, rfl, hcap3, hi3, hb⟩; have HI5 := Aside0.mk hi3.1; have HN5 := Aside0.mk hi3.1.1; have HB5 := Aside0.mk (below_then HB4.out HB4.out.size hb); have HY5 := Aside0.mk (blk_below HY4.out hb); clear hb hi3 hcap3 hf))
        | (go_at_call 43; go_must (refine (level_calls A3 n3 c3 f.1 f.2 _ HI5.out (by rw [HF.out]; exact HSO.out) (by rw [← HN5.out, HF.out]; exact HSL.out) (by rw [HF.out]; exact HNE.out)).mono ?_; obtain ⟨x, hx⟩ : ∃ x, x = lvlN (f.1, f.2) := ⟨_, rfl⟩; rw [← hx]; have HXE := Aside0.mk (show instL vs l = x by rw [HIE.out, hx, HF.out, ← HOF.out]); rintro e w6 ⟨A4, c4, rfl, hl4, hb⟩; have HL6 := Aside0.mk hl4; have HZ6 := Aside0.mk HB5.out.size; have HB6 := Aside0.mk (below_then HB5.out HB5.out.size hb); have HY6 := Aside0.mk (blk_below HY5.out hb); have HYL := Aside0.mk (blk_lt HY5.out); obtain ⟨q0, q1, q2, z0, z1, z2⟩ := row3 HY6.out; clear hb hl4 hx; simp only [lvV])))
      refine bodyPost_ret (results_c rfl _ _ (w.heap.size + 1 + 1) 24 #[.int .i64 x.kind, .int .i64 x.num, .slice A4 x.kids.length c4] (0, 0) _ rfl (set3 HY6.out) Try.underlying24 rfl (by kernel_rfl)) rfl ?_
      have hch := chg_set3 w6 (w.heap.size + 1 + 1) (.int .i64 x.kind) (.int .i64 x.num) (.slice A4 x.kids.length c4)
      have hyl := HYL.out
      have hz6 := HZ6.out
      rw [HXE.out]
      exact ⟨A4, c4, rfl, (HL6.out.same fun b hb hz => hch.block b hz (by rcases hb with hb | hb; exact hb.elim; omega)).mono fun b hb _ => hb.elim .inl fun h => .inr (Nat.le_trans hz6 h), Chg.trans_below HB6.out hch (fun _ e => by omega) HB6.out.size⟩
    · have HE := Aside0.mk (show instL vs l = .mk 0 0 [] by unfold instL; rw [if_neg (by rw [← HN.out, hes]; simp [he])])
      have he' : (e3 != 0) = true := by simp [he]
      clear hes he
      go_upto_region 6 with (first
        | (go_at_call 27; go_must (refine (walk_inst vs Av nv cv (w.heap.size + 1) (G + 1) G _ l (Nat.lt_succ_self _) (good_of_sound HS.out) A c 1 _ _ (LvIn.mono (HIN.out.stay HB2.out) (by omega)) HK2.out HI2.out (by simp)).mono ?_; rintro e w3 ⟨rfl, hi3, hc3⟩; rw [HV3.out] at hi3 ⊢; have HB3 := Aside0.mk (Chg.trans_below HB2.out hc3 (fun _ e => by have := HGZ.out; omega) HB2.out.size); have HY3 := Aside0.mk ((hc3.block _ (blk_lt HY2.out) (by have := HGZ.out; omega)).trans HY2.out); obtain ⟨z0, z1, z2, q0, q1, q2⟩ := row3 HY3.out; clear hi3 hc3)))
      go_wp2
      refine bodyPost_ret (results_c rfl _ _ (w.heap.size + 1 + 1) 24 #[.int .i64 0, .int .i64 0, .slice none 0 0] (0, 0) _ rfl (set3 HY3.out) Try.underlying24 rfl (by kernel_rfl)) rfl ?_
      rw [HE.out]
      exact zero_got _ _ (Chg.trans_below HB3.out (chg_set3 _ _ _ _ _) (fun _ e => by omega) HB3.out.size)
end Go.Proofs.Ytjlhbaohippidaa

/-! PutsP -/
namespace Go.Proofs.Ytjlhbaohippidaa
open Go.RowKit Go.Proofs.YtjlhbaohippidaaW.PrintWords Go.RegionInvYtjlhbaohippidaa Go.RegionEYtjlhbaohippidaa

theorem zero_not_sound : soundB (.mk 0 0 []) = false := by
  cases h : soundB (.mk 0 0 []) with
  | false => rfl
  | true =>
    rcases good_cases (good_of_sound h) with ⟨e, -⟩ | ⟨e, -⟩ | ⟨e, -⟩ | ⟨e, -⟩ <;> exact absurd e (by decide)
theorem instL_sum {us : List Lv} {l : Lv} (hu : ∀ u ∈ us, soundB u = true) (hl : soundB l = true) (hx : soundB (instL us l) = true) : eqR (sumP (instL us l)) (ofP (us.map sumP) l) := by
  have hn : NfL (ofP (us.map sumP) l) := ofP_nfl (fun f hf => by obtain ⟨u, hu', rfl⟩ := List.mem_map.1 hf; exact sum_nfl (hu u hu')) (good_of_sound hl)
  unfold instL at hx ⊢
  split
  · have h := lvl_sum (short_ok hn.1) (Nat.le_trans (short_len_le _) hn.2) (parts_ne hn.1)
    exact ⟨fun j => (h.1 j).trans (atP_short hn.1 j), h.2.trans (least_short hn.1)⟩
  · rename_i h
    rw [if_neg h, zero_not_sound] at hx
    cases hx
/-- A number as the law takes it. -/
def clI (v : Int) : Int := max 0 (min v 1073741824)
def innerL (us : List Lv) (at_ : List Int) : List Int := us.map (valB at_) ++ at_.drop us.length
theorem valB_in (vs : List Int) {l : Lv} (h : soundB l = true) : 0 ≤ valB vs l ∧ valB vs l ≤ 1099511627776 := by
  rw [valB_yes h, valN_sum vs (good_of_sound h)]; exact valR_in vs (good_of_sound h)
theorem inner_at {us : List Lv} {at_ : List Int} (hu : ∀ u ∈ us, soundB u = true) (i : Nat) : vAt (innerL us at_) i = if i < us.length then valB at_ (lvAt us i) else vAt at_ i := by
  unfold innerL
  by_cases hi : i < us.length
  · rw [if_pos hi, vAt_lt (by simp; omega), rd_nat', List.getD_eq_getElem?_getD, List.getElem?_append_left (by simpa using hi), List.getElem?_map, List.getElem?_eq_getElem hi]
    have hx := valB_in at_ (hu _ (List.getElem_mem hi))
    have e : lvAt us i = us[i] := lvAt_get (List.getElem?_eq_getElem hi)
    rw [e]
    simp only [Option.map_some, Option.getD_some]
    omega
  · rw [if_neg hi]
    unfold vAt
    rw [rd_nat', rd_nat', List.getD_eq_getElem?_getD, List.getD_eq_getElem?_getD, List.getElem?_append_right (by simp; omega)]
    simp only [List.length_append, List.length_map, List.length_drop, List.getElem?_drop]
    rw [show us.length + (i - us.length) = i by omega]
    by_cases h : i < at_.length
    · rw [if_pos (by omega), if_pos h]
    · rw [if_neg (by omega), if_neg h]
theorem puts_val {us : List Lv} {l : Lv} {at_ : List Int} (hu : ∀ u ∈ us, soundB u = true) (hl : soundB l = true) (hx : soundB (instL us l) = true) : valB at_ (instL us l) = valB (innerL us at_) l := by
  have hn : NfL (ofP (us.map sumP) l) := ofP_nfl (fun f hf => by obtain ⟨u, hu', rfl⟩ := List.mem_map.1 hf; exact sum_nfl (hu u hu')) (good_of_sound hl)
  rw [valB_yes hx, val_eqR (sumP_ok hx) hn.1 (instL_sum hu hl hx), valN_map hu (inner_at hu) (good_of_sound hl), valB_yes hl, valN_sum _ (good_of_sound hl)]
end Go.Proofs.Ytjlhbaohippidaa

/-! Bx -/
namespace Go.Proofs.Ytjlhbaohippidaa
open Go.RowKit Go.Proofs.YtjlhbaohippidaaW.PrintWords Go.RegionInvYtjlhbaohippidaa Go.RegionEYtjlhbaohippidaa
abbrev bx3 (w : World) (A B C : Option Addr) (c c' c'' : Nat) (a b d : Lv) : World := (bx2 w A B c c' a b).alloc (.cells #[.int .i64 d.kind, .int .i64 d.num, .slice C d.kids.length c''] 24 (0, 0))
theorem box2_3 (w : World) (A B C : Option Addr) (c c' c'' : Nat) (a b d : Lv) : (bx3 w A B C c c' c'' a b d).heap[w.heap.size + 1 + 1]? = some (.cells #[.int .i64 d.kind, .int .i64 d.num, .slice C d.kids.length c''] 24 (0, 0)) := by
  have := blk_new (bx2 w A B c c' a b) (.cells #[.int .i64 d.kind, .int .i64 d.num, .slice C d.kids.length c''] 24 (0, 0))
  simpa [bx2] using this
theorem lv_old {w w1 : World} {A : Option Addr} {c : Nat} {l : Lv} (h : LvIn w w.heap.size A c l) (hb : Below w.heap.size w w1) : LvS w1 (fun k => k < w1.heap.size) A c l := (h.stay hb).mono hb.size
end Go.Proofs.Ytjlhbaohippidaa

/-! LawPu -/
namespace Go.Proofs.Ytjlhbaohippidaa
open Go.RowKit Go.IntWalk Go.Proofs.YtjlhbaohippidaaW.PrintWords Go.RegionInvYtjlhbaohippidaa Go.RegionEYtjlhbaohippidaa

theorem gi (l : Lv) : soundB l = true ∨ soundB l = false := by cases soundB l <;> simp
theorem gt (l : Lv) : litP l = true ∨ litP l = false := by cases litP l <;> simp
/-- A row of numbers that the law makes. -/
structure PutSt (w2 wr : World) (v : Value) (xs : List Int) : Prop where
  own : wr.ownsRow w2.heap.size 3 1 v xs.length (nums .i64 xs)
  bel : Below w2.heap.size w2 wr
theorem PutSt.later {w2 wr w' : World} {v : Value} {xs : List Int} (h : PutSt w2 wr v xs) (hb : Below wr.heap.size wr w') : PutSt w2 w' v xs := ⟨pw_own_below h.own hb, below_then h.bel h.bel.size hb⟩
def PutK (w2 wr : World) (v : Value) (m : Nat) : Prop := ∃ xs : List Int, xs.length = m ∧ PutSt w2 wr v xs
theorem putK_nil (w : World) : PutK w w (.slice none 0 0) 0 := ⟨[], rfl, own_nil _ _ _ _, Below.refl _ _⟩
theorem take_drop_snoc {xs : List Int} {i n : Nat} (h : i < xs.length) (hn : n ≤ i) : (xs.take (i + 1)).drop n = (xs.take i).drop n ++ [rd xs (i : Nat)] := by
  rw [List.take_add_one, List.drop_append_of_le_length (by rw [List.length_take]; omega), rd_nat', List.getD_eq_getElem?_getD, List.getElem?_eq_getElem h]; rfl
set_option maxRecDepth 4000 in
set_option maxHeartbeats 16000000 in
theorem putsLaw_calls (A U V : Option Addr) (c nu cu nv cv : Nat) (l : Lv) (us : List Lv) (vs : List Int) (w : World) (ha : LvIn w w.heap.size A c l) (hu : LvIn w w.heap.size U cu (.mk 0 0 us)) (hnu : nu = us.length) (hv : ReadsInt w .i64 V nv vs) :
    Calls Try.prog 8 #[lvV A c l, .slice U nu cu, .slice V nv cv] w fun e w' => e = .returned (.bool true) ∧ Below w.heap.size w w' := by
  have HA := Aside0.mk ha
  have HU := Aside0.mk hu
  have HNU := Aside0.mk hnu
  have HV := Aside0.mk hv
  have HW := Aside0.mk (show Below w.heap.size w (w.alloc (.cells #[.int .i64 l.kind, .int .i64 l.num, .slice A l.kids.length c] 24 (0, 0))) from below_alloc (Below.refl _ _) _)
  have HX := Aside0.mk (blk_new w (.cells #[.int .i64 l.kind, .int .i64 l.num, .slice A l.kids.length c] 24 (0, 0)))
  clear ha hu hnu hv
  unfold lvV
  go_enter Try.func8, Try.ntmps8
  have HBL := HW
  rcases gi l with hsa | hsa
  · have SA := Aside0.mk hsa
    clear hsa
    rcases gt l with hla | hla
    · have LA := Aside0.mk hla
      clear hla
      by_cases hn : 8 < nu
      · have hn' : decide ((8 : Int) < (nu : Int)) = true := by simp; omega
        clear hn
        go_wp2_with (first
          | (go_at_call 13; go_must (refine (awake_calls _).mono ?_; rintro e w9 ⟨rfl, hb⟩; have HBN := Aside0.mk (below_then HBL.out HBL.out.size hb); clear hb HBL; have HBL := HBN; clear HBN))
          | (go_at_call 19; go_must (refine (little_calls _ l (Nat.lt_succ_self _) A c _ (LvS.all (HA.out.stay HBL.out))).mono ?_; rintro e w2 ⟨rfl, hb⟩; rw [LA.out]; have HBN := Aside0.mk (below_then HBL.out HBL.out.size hb); have HX2 := Aside0.mk (blk_below HX1.out hb); clear hb HBL; have HBL := HBN; clear HBN))
          | (go_at_call 16; go_must (refine (refSound_calls A c l _ (LvS.all (HA.out.stay HBL.out))).mono ?_; rintro e w1 ⟨rfl, hb⟩; rw [SA.out]; have HBN := Aside0.mk (below_then HBL.out HBL.out.size hb); have HX1 := Aside0.mk (blk_below HX.out hb); obtain ⟨p0, p1, p2, -, -, -⟩ := row3 HX1.out; clear hb HBL; have HBL := HBN; clear HBN)))
        go_ret
        exact ⟨rfl, HBL.out⟩
      · have hn' : decide ((8 : Int) < (nu : Int)) = false := by simp; omega
        by_cases hm : 50 < nv
        · have hm' : decide ((50 : Int) < (nv : Int)) = true := by simp; omega
          clear hn hm
          go_wp2_with (first
            | (go_at_call 13; go_must (refine (awake_calls _).mono ?_; rintro e w9 ⟨rfl, hb⟩; have HBN := Aside0.mk (below_then HBL.out HBL.out.size hb); clear hb HBL; have HBL := HBN; clear HBN))
            | (go_at_call 19; go_must (refine (little_calls _ l (Nat.lt_succ_self _) A c _ (LvS.all (HA.out.stay HBL.out))).mono ?_; rintro e w2 ⟨rfl, hb⟩; rw [LA.out]; have HBN := Aside0.mk (below_then HBL.out HBL.out.size hb); have HX2 := Aside0.mk (blk_below HX1.out hb); clear hb HBL; have HBL := HBN; clear HBN))
            | (go_at_call 16; go_must (refine (refSound_calls A c l _ (LvS.all (HA.out.stay HBL.out))).mono ?_; rintro e w1 ⟨rfl, hb⟩; rw [SA.out]; have HBN := Aside0.mk (below_then HBL.out HBL.out.size hb); have HX1 := Aside0.mk (blk_below HX.out hb); obtain ⟨p0, p1, p2, -, -, -⟩ := row3 HX1.out; clear hb HBL; have HBL := HBN; clear HBN)))
          go_ret
          exact ⟨rfl, HBL.out⟩
        · have hm' : decide ((50 : Int) < (nv : Int)) = false := by simp; omega
          have HN8 := Aside0.mk (show nu ≤ 8 by omega)
          have HN50 := Aside0.mk (show nv ≤ 50 by omega)
          clear hn hm
          go_upto_block 0 with (first
            | (go_at_call 19; go_must (refine (little_calls _ l (Nat.lt_succ_self _) A c _ (LvS.all (HA.out.stay HBL.out))).mono ?_; rintro e w2 ⟨rfl, hb⟩; rw [LA.out]; have HBN := Aside0.mk (below_then HBL.out HBL.out.size hb); have HX2 := Aside0.mk (blk_below HX1.out hb); clear hb HBL; have HBL := HBN; clear HBN))
            | (go_at_call 16; go_must (refine (refSound_calls A c l _ (LvS.all (HA.out.stay HBL.out))).mono ?_; rintro e w1 ⟨rfl, hb⟩; rw [SA.out]; have HBN := Aside0.mk (below_then HBL.out HBL.out.size hb); have HX1 := Aside0.mk (blk_below HX.out hb); obtain ⟨p0, p1, p2, -, -, -⟩ := row3 HX1.out; clear hb HBL; have HBL := HBN; clear HBN)))
          clear hn' hm'
          go_cut [7] (fun v wr => Aside0 (PutK w2 wr v nv))
          case first =>
            have HV2 := Aside0.mk (HV.out.below HBL.out)
            have hnv := HN50.out
            have hpn := putK_nil w2
            go_wp2
            go_loopw [36, 7] (fun i v wr => ∃ (j : Nat), i = .int .i64 j ∧ j ≤ nv ∧ Aside0 (PutK w2 wr v j)) (fun i _ _ => nv - (intOf i).toNat)
            case atStart => exact ⟨0, rfl, Nat.zero_le _, ⟨hpn⟩⟩
            case round =>
              clear hpn
              obtain ⟨j, rfl, hj, HST⟩ := hrel
              by_cases hlt : j < nv
              · obtain ⟨xs, hxl, hst⟩ := HST.out
                obtain ⟨A0, L0, c0, rfl, hL0⟩ := own_slice' hst.own
                obtain ⟨ad, rfl, hc⟩ := (HV2.out.below hst.bel).at_ j (by omega) (by omega)
                rw [Int.toNat_natCast] at hc
                have HS1 := Aside0.mk hst
                have HXL := Aside0.mk hxl
                have HL0 := Aside0.mk hL0
                obtain ⟨z, hz⟩ : ∃ z, z = rd vs j := ⟨_, rfl⟩
                rw [← hz] at hc
                clear hz hst hxl hL0 HST
                go_wp2_with (first
                  | (at_builtin; go_must (refine print_append_num (w0 := w2) w2.heap.size rfl (.tmp 40) (.tmp 44) 29 3 .i64 8 rfl Try.underlying29 infoI64 (by decide) (.slice A0 L0 c0) xs _ rfl rfl HS1.out.own HS1.out.bel HS1.out.bel.size (by rw [HXL.out]; omega) ?_; intro v1 w3 ho hb3 _ _; have HS3 := Aside0.mk (show PutK w2 w3 v1 (j + 1) from ⟨_, by rw [List.length_append, HXL.out]; rfl, ho, hb3⟩); clear ho hb3)))
                go_roundw
                case rel => exact ⟨j + 1, by go_num, by omega, HS3⟩
                case measure => (simp [intOf]; try omega)
              · obtain rfl : j = nv := by omega
                have hlt' : decide ((j : Int) < j) = false := by simp
                go_wp2
                go_meet
                case rel => exact HST
          case rest =>
            obtain ⟨wa, hwa⟩ : ∃ wa, wa = wc := ⟨_, rfl⟩
            subst hwa
            obtain ⟨at_, hatl, hst⟩ := hcut.out
            obtain ⟨A1, L1, c1, rfl, hL1⟩ := own_slice' hst.own
            have HAT := Aside0.mk (show ReadsInt wa .i64 A1 L1 at_ by have h := hst.own; rw [← hL1] at h; exact own_reads' h)
            have HL1 := Aside0.mk hL1
            have HL50 := Aside0.mk (show at_.length ≤ 50 by rw [hatl]; exact HN50.out)
            have HX3 := Aside0.mk (blk_below HX2.out hst.bel)
            have HBN := Aside0.mk (below_then HBL.out HBL.out.size hst.bel)
            clear hst HBL hcut hatl hL1
            have HBL := HBN
            clear HBN
            go_upto_block 2 with (fail)
            go_cut [10] (fun v wr => Aside0 (PutSt wa wr v (us.map (valB at_)) ∧ ∀ u ∈ us, soundB u = true))
            case first =>
              have hpn : PutSt wa wa (.slice none 0 0) [] := ⟨own_nil _ _ _ _, Below.refl _ _⟩
              have hnu8 := HN8.out
              go_wp2
              go_loopw [49, 10] (fun i v wr => ∃ (j : Nat), i = .int .i64 j ∧ j ≤ nu ∧ Aside0 (PutSt wa wr v ((us.take j).map (valB at_)) ∧ ∀ u ∈ us.take j, soundB u = true)) (fun i _ _ => nu - (intOf i).toNat)
              case atStart => exact ⟨0, rfl, Nat.zero_le _, ⟨hpn, fun u hu => by cases hu⟩⟩
              case round =>
                clear hpn
                obtain ⟨j, rfl, hj, HST⟩ := hrel
                by_cases hlt : j < nu
                · obtain ⟨hst, hall⟩ := HST.out
                  obtain ⟨A0, L0, c0, rfl, hL0⟩ := own_slice' hst.own
                  have HB3 := Aside0.mk (below_then HBL.out HBL.out.size hst.bel)
                  obtain ⟨x, hx⟩ : ∃ x, us[j]? = some x := ⟨_, List.getElem?_eq_getElem (by rw [← HNU.out]; exact hlt)⟩
                  obtain ⟨Ax, cx, hcs, hlx⟩ := (HU.out.stay HB3.out).kid j x hx
                  obtain ⟨ad, rfl, hc1, hc2, hc3⟩ := hcs.facts
                  have HS1 := Aside0.mk hst
                  have HALL := Aside0.mk hall
                  have HL0 := Aside0.mk hL0
                  have HXX := Aside0.mk hx
                  have HLX := Aside0.mk hlx
                  have HTL := Aside0.mk (show ((us.take j).map (valB at_)).length = j by rw [List.length_map, List.length_take]; have := HNU.out; omega)
                  have HRD := Aside0.mk (HAT.out.below hst.bel)
                  clear hcs hst hall hL0 hx hlx HST
                  have HTS := Aside0.mk (show (us.take (j + 1)).map (valB at_) = (us.take j).map (valB at_) ++ [valB at_ x] by rw [List.take_add_one, HXX.out, List.map_append]; rfl)
                  rcases gi x with hsx | hsx
                  · have SX := Aside0.mk hsx
                    have HALL2 := Aside0.mk (show ∀ u ∈ us.take (j + 1), soundB u = true from fun u hu => by rw [List.take_add_one, HXX.out] at hu; rcases List.mem_append.1 hu with h | h; exact HALL.out u h; rw [show u = x by simpa using h]; exact SX.out)
                    clear hsx
                    rcases gt x with hlx | hlx
                    · have LX := Aside0.mk hlx
                      clear hlx
                      go_wp2_with (first
                        | (go_at_call 16; go_must (refine (refSound_calls Ax cx x _ (LvS.all (HLX.out.later (below_alloc (Below.refl _ _) _)))).mono ?_; rintro e w4 ⟨rfl, hb⟩; rw [SX.out]; have HB4 := Aside0.mk (below_then (below_alloc (Below.refl wr.heap.size wr) _) (below_alloc (Below.refl wr.heap.size wr) _).size hb); have HU4 := Aside0.mk (blk_below (blk_new wr (.cells #[.int .i64 x.kind, .int .i64 x.num, .slice Ax x.kids.length cx] 24 (0, 0))) hb); obtain ⟨p0, p1, p2, -, -, -⟩ := row3 HU4.out; clear hb))
                        | (go_at_call 19; go_must (refine (little_calls _ x (Nat.lt_succ_self _) Ax cx _ (LvS.all (HLX.out.later HB4.out))).mono ?_; rintro e w5 ⟨rfl, hb⟩; rw [LX.out]; have HB5 := Aside0.mk (below_then HB4.out HB4.out.size hb); have HU5 := Aside0.mk (blk_below HU4.out hb); obtain ⟨p0, p1, p2, -, -, -⟩ := row3 HU5.out; clear hb))
                        | (go_at_call 14; go_must (refine (value_calls Ax A1 cx L1 c1 x at_ _ (LvS.all (HLX.out.later HB5.out)) (HRD.out.below HB5.out)).mono ?_; rintro e w6 ⟨rfl, hb⟩; obtain ⟨y, hy⟩ : ∃ y, y = valB at_ x := ⟨_, rfl⟩; rw [← hy]; have HY := Aside0.mk hy; have HS6 := Aside0.mk (HS1.out.later (below_then HB5.out HB5.out.size hb)); clear hb hy))
                        | (at_builtin; go_must (refine print_append_num (w0 := wa) wa.heap.size rfl (.tmp 62) (.tmp 66) 29 3 .i64 8 rfl Try.underlying29 infoI64 (by decide) (.slice A0 L0 c0) ((us.take j).map (valB at_)) y rfl rfl HS6.out.own HS6.out.bel HS6.out.bel.size (by rw [HTL.out]; omega) ?_; intro v1 w7 ho hb7 _ _; have HS7 := Aside0.mk (show PutSt wa w7 v1 ((us.take (j + 1)).map (valB at_)) by rw [HTS.out, ← HY.out]; exact ⟨ho, hb7⟩); clear ho hb7)))
                      go_roundw
                      case rel => exact ⟨j + 1, by go_num, by omega, HS7.out, HALL2.out⟩
                      case measure => (simp [intOf]; try omega)
                    · have LX := Aside0.mk hlx
                      clear hlx
                      go_wp2_with (first
                        | (go_at_call 13; go_must (refine (awake_calls _).mono ?_; rintro e w9 ⟨rfl, hb⟩; have HB9 := Aside0.mk (below_then HB3.out HB3.out.size (below_then HB5.out HB5.out.size hb)); clear hb))
                        | (go_at_call 16; go_must (refine (refSound_calls Ax cx x _ (LvS.all (HLX.out.later (below_alloc (Below.refl _ _) _)))).mono ?_; rintro e w4 ⟨rfl, hb⟩; rw [SX.out]; have HB4 := Aside0.mk (below_then (below_alloc (Below.refl wr.heap.size wr) _) (below_alloc (Below.refl wr.heap.size wr) _).size hb); have HU4 := Aside0.mk (blk_below (blk_new wr (.cells #[.int .i64 x.kind, .int .i64 x.num, .slice Ax x.kids.length cx] 24 (0, 0))) hb); obtain ⟨p0, p1, p2, -, -, -⟩ := row3 HU4.out; clear hb))
                        | (go_at_call 19; go_must (refine (little_calls _ x (Nat.lt_succ_self _) Ax cx _ (LvS.all (HLX.out.later HB4.out))).mono ?_; rintro e w5 ⟨rfl, hb⟩; rw [LX.out]; have HB5 := Aside0.mk (below_then HB4.out HB4.out.size hb); have HU5 := Aside0.mk (blk_below HU4.out hb); obtain ⟨p0, p1, p2, -, -, -⟩ := row3 HU5.out; clear hb)))
                      go_ret
                      exact ⟨rfl, HB9.out⟩
                  · have SX := Aside0.mk hsx
                    clear hsx
                    go_wp2_with (first
                      | (go_at_call 13; go_must (refine (awake_calls _).mono ?_; rintro e w9 ⟨rfl, hb⟩; have HB9 := Aside0.mk (below_then HB3.out HB3.out.size (below_then HB4.out HB4.out.size hb)); clear hb))
                      | (go_at_call 16; go_must (refine (refSound_calls Ax cx x _ (LvS.all (HLX.out.later (below_alloc (Below.refl _ _) _)))).mono ?_; rintro e w4 ⟨rfl, hb⟩; rw [SX.out]; have HB4 := Aside0.mk (below_then (below_alloc (Below.refl wr.heap.size wr) _) (below_alloc (Below.refl wr.heap.size wr) _).size hb); have HU4 := Aside0.mk (blk_below (blk_new wr (.cells #[.int .i64 x.kind, .int .i64 x.num, .slice Ax x.kids.length cx] 24 (0, 0))) hb); obtain ⟨p0, p1, p2, -, -, -⟩ := row3 HU4.out; clear hb)))
                    go_ret
                    exact ⟨rfl, HB9.out⟩
                · obtain rfl : j = nu := by omega
                  have hlt' : decide ((j : Int) < j) = false := by simp
                  have HT := Aside0.mk (show us.take j = us from List.take_of_length_le (by rw [HNU.out]; exact Nat.le_refl _))
                  go_wp2
                  go_meet
                  case rel => rw [HT.out] at HST; exact HST
            case rest =>
              obtain ⟨hst, hall⟩ := hcut.out
              obtain ⟨A0, L0, c0, rfl, hL0⟩ := own_slice' hst.own
              have HALL := Aside0.mk hall
              have HS0 := Aside0.mk hst
              clear hst hall hcut hL0
              go_upto_block 4 with (fail)
              go_cut [10] (fun v wr => Aside0 (PutSt wa wr v (innerL us at_)))
              case first =>
                have hnu8 := HN8.out
                have hl50 : L1 ≤ 50 := by rw [HL1.out]; exact HL50.out
                have HS3 := Aside0.mk (show PutSt wa wc (.slice A0 L0 c0) (us.map (valB at_) ++ (at_.take nu).drop us.length) by rw [List.drop_of_length_le (by rw [List.length_take, ← HNU.out]; omega), List.append_nil]; exact HS0.out)
                clear HS0
                go_wp2
                go_loopw [13, 10] (fun i v wr => ∃ (j : Nat), i = .int .i64 j ∧ nu ≤ j ∧ (j ≤ L1 ∨ j = nu) ∧ Aside0 (PutSt wa wr v (us.map (valB at_) ++ (at_.take j).drop us.length))) (fun i _ _ => L1 - (intOf i).toNat)
                case atStart => exact ⟨nu, rfl, Nat.le_refl _, .inr rfl, HS3⟩
                case round =>
                  clear HS3
                  obtain ⟨j, rfl, hj0, hj1, HST⟩ := hrel
                  by_cases hlt : j < L1
                  · obtain ⟨A3, L3, c3, rfl, hL3⟩ := own_slice' HST.out.own
                    obtain ⟨ad, rfl, hc⟩ := (HAT.out.below HST.out.bel).at_ j (by omega) (by omega)
                    rw [Int.toNat_natCast] at hc
                    have HLT := Aside0.mk (show j < at_.length by rw [← HL1.out]; exact hlt)
                    have HT := Aside0.mk (take_drop_snoc HLT.out (show us.length ≤ j by rw [← HNU.out]; exact hj0))
                    have HLEN := Aside0.mk (show (us.map (valB at_) ++ (at_.take j).drop us.length).length ≤ 60 by simp only [List.length_append, List.length_map, List.length_drop, List.length_take]; have := HNU.out; have := HN8.out; have := HL50.out; omega)
                    obtain ⟨z, hz⟩ : ∃ z, z = rd at_ (j : Nat) := ⟨_, rfl⟩
                    have HZ := Aside0.mk hz
                    rw [← hz] at hc
                    clear hz hL3
                    go_wp2_with (first
                      | (at_builtin; go_must (refine print_append_num (w0 := wa) wa.heap.size rfl (.tmp 77) (.tmp 82) 29 3 .i64 8 rfl Try.underlying29 infoI64 (by decide) (.slice A3 L3 c3) (us.map (valB at_) ++ (at_.take j).drop us.length) z rfl rfl HST.out.own HST.out.bel HST.out.bel.size (by have := HLEN.out; omega) ?_; intro v1 w7 ho hb7 _ _; have HS7 := Aside0.mk (show PutSt wa w7 v1 (us.map (valB at_) ++ (at_.take (j + 1)).drop us.length) by rw [HT.out, ← HZ.out, ← List.append_assoc]; exact ⟨ho, hb7⟩); clear ho hb7)))
                    go_roundw
                    case rel => exact ⟨j + 1, by go_num, by omega, .inl (by omega), HS7⟩
                    case measure => (simp [intOf]; try omega)
                  · have hge : L1 ≤ j := by omega
                    have HT := Aside0.mk (show at_.take j = at_ from List.take_of_length_le (by rw [← HL1.out]; omega))
                    go_wp2
                    go_meet
                    case rel => rw [HT.out] at HST; exact HST
              case rest =>
                obtain ⟨A2, L2, c2, rfl, hL2⟩ := own_slice' hcut.out.own
                have HR2 := Aside0.mk (show ReadsInt wc .i64 A2 L2 (innerL us at_) by have h := hcut.out.own; rw [← hL2] at h; exact own_reads' h)
                have HR1 := Aside0.mk (HAT.out.below hcut.out.bel)
                have HX5 := Aside0.mk (blk_below HX3.out hcut.out.bel)
                have HBN := Aside0.mk (below_then HBL.out HBL.out.size hcut.out.bel)
                clear hcut hL2 HBL
                have HBL := HBN
                clear HBN
                obtain ⟨p0, p1, p2, -, -, -⟩ := row3 HX5.out
                have hnu8 := HN8.out
                go_upto_region 22 with (first
                  | (go_at_call 23; go_must (refine (inst_calls A c l U nu cu us _ (LvS.all (HA.out.stay HBL.out)) (LvS.all (HU.out.stay HBL.out)) HNU.out (by omega)).mono ?_; obtain ⟨x, hx⟩ : ∃ x, x = instL us l := ⟨_, rfl⟩; rw [← hx]; have HXE := Aside0.mk hx; rintro e w8 ⟨Ax, cx, rfl, hlx, hb⟩; have HLX := Aside0.mk (LvS.all hlx); have HBN := Aside0.mk (below_then HBL.out HBL.out.size hb); have HR3 := Aside0.mk (HR1.out.below hb); have HR4 := Aside0.mk (HR2.out.below hb); have HX6 := Aside0.mk (blk_below HX5.out hb); clear hb hlx hx HBL; have HBL := HBN; clear HBN; simp only [lvV])))
                have hxs : soundB x = true ∨ soundB x = false := gi x
                have HVX := Aside0.mk (show soundB x = true → valB at_ x = valB (innerL us at_) l from fun h => by rw [HXE.out] at h ⊢; exact puts_val HALL.out SA.out h)
                have HBX := Aside0.mk (show Below w8.heap.size w8 (w8.alloc (.cells #[.int .i64 x.kind, .int .i64 x.num, .slice Ax x.kids.length cx] 24 (0, 0))) from below_alloc (Below.refl _ _) _)
                rcases hxs with hxs | hxs
                · refine pu1_region _ w8.heap.size w.heap.size Ax A A1 A2 cx c L1 c1 L2 c2 x l at_ (innerL us at_) (blk_new w8 _) (LvS.all (LvS.later HLX.out HBX.out)) (blk_below HX6.out HBX.out) (lv_old HA.out (below_then HBL.out HBL.out.size HBX.out)) (HR3.out.below HBX.out) (HR4.out.below HBX.out) hxs (HVX.out hxs) ?_
                  intro w9 hch
                  have HB9 := Aside0.mk (below_then HBX.out HBX.out.size (hch.below (fun _ h => h.elim False.elim False.elim) (Nat.le_refl _)))
                  clear hch
                  go_wp2
                  go_ret
                  exact ⟨rfl, below_then HBL.out HBL.out.size HB9.out⟩
                · refine pu0_region _ w8.heap.size w.heap.size Ax A A1 A2 cx c L1 c1 L2 c2 x l at_ (innerL us at_) (blk_new w8 _) (LvS.all (LvS.later HLX.out HBX.out)) (blk_below HX6.out HBX.out) (lv_old HA.out (below_then HBL.out HBL.out.size HBX.out)) (HR3.out.below HBX.out) (HR4.out.below HBX.out) hxs ?_
                  intro w9 hch
                  have HB9 := Aside0.mk (below_then HBX.out HBX.out.size (hch.below (fun _ h => h.elim False.elim False.elim) (Nat.le_refl _)))
                  clear hch
                  go_wp2
                  go_ret
                  exact ⟨rfl, below_then HBL.out HBL.out.size HB9.out⟩
    · have LA := Aside0.mk hla
      clear hla
      go_wp2_with (first
        | (go_at_call 13; go_must (refine (awake_calls _).mono ?_; rintro e w9 ⟨rfl, hb⟩; have HBN := Aside0.mk (below_then HBL.out HBL.out.size hb); clear hb HBL; have HBL := HBN; clear HBN))
        | (go_at_call 19; go_must (refine (little_calls _ l (Nat.lt_succ_self _) A c _ (LvS.all (HA.out.stay HBL.out))).mono ?_; rintro e w2 ⟨rfl, hb⟩; rw [LA.out]; have HBN := Aside0.mk (below_then HBL.out HBL.out.size hb); have HX2 := Aside0.mk (blk_below HX1.out hb); clear hb HBL; have HBL := HBN; clear HBN))
        | (go_at_call 16; go_must (refine (refSound_calls A c l _ (LvS.all (HA.out.stay HBL.out))).mono ?_; rintro e w1 ⟨rfl, hb⟩; rw [SA.out]; have HBN := Aside0.mk (below_then HBL.out HBL.out.size hb); have HX1 := Aside0.mk (blk_below HX.out hb); obtain ⟨p0, p1, p2, -, -, -⟩ := row3 HX1.out; clear hb HBL; have HBL := HBN; clear HBN)))
      go_ret
      exact ⟨rfl, HBL.out⟩
  · have SA := Aside0.mk hsa
    clear hsa
    go_wp2_with (first
      | (go_at_call 13; go_must (refine (awake_calls _).mono ?_; rintro e w9 ⟨rfl, hb⟩; have HBN := Aside0.mk (below_then HBL.out HBL.out.size hb); clear hb HBL; have HBL := HBN; clear HBN))
      | (go_at_call 16; go_must (refine (refSound_calls A c l _ (LvS.all (HA.out.stay HBL.out))).mono ?_; rintro e w1 ⟨rfl, hb⟩; rw [SA.out]; have HBN := Aside0.mk (below_then HBL.out HBL.out.size hb); have HX1 := Aside0.mk (blk_below HX.out hb); obtain ⟨p0, p1, p2, -, -, -⟩ := row3 HX1.out; clear hb HBL; have HBL := HBN; clear HBN)))
    go_ret
    exact ⟨rfl, HBL.out⟩
end Go.Proofs.Ytjlhbaohippidaa

/-! LvIn -/
namespace Go.Proofs.Ytjlhbaohippidaa
open Go.RowKit Go.Proofs.YtjlhbaohippidaaW.PrintWords Go.RegionInvYtjlhbaohippidaa Go.ChangeShapes Go.WideShapes Go.Deep

instance : Inhabited Lv := ⟨.mk 0 0 []⟩
theorem lv_open {H : Type} {enc : TypeId × Value → H} {W : World} {base : Nat} {sp : Nat → Bool} {held : Bool} (F : Nat) : ∀ (fuel : Nat), fuel ≤ F → ∀ (cs : List Value) (x : DataW H × List MemPlace),
    DataW.trod enc Try.prog W base sp held fuel 24 cs = some x → ∃ (l : Lv) (A : Option Addr) (c : Nat), cs = [.int .i64 l.kind, .int .i64 l.num, .slice A l.kids.length c] ∧ LvS W (fun _ => True) A c l ∧ (Lit.int .i64 l.kind).wf = true ∧ (Lit.int .i64 l.num).wf = true := by
  induction F with
  | zero =>
    intro fuel hF cs x h
    obtain ⟨xs, n, hn, _⟩ := DataW.trod_struct Try.underlying24 h
    omega
  | succ F ih =>
    intro fuel hF cs x h
    obtain ⟨xs, n, hn, hx, hl, hxl, hf⟩ := DataW.trod_struct Try.underlying24 h
    have hl3 : cs.length = 3 := by rw [hl]; kernel_rfl
    match xs, hxl, cs, hl3 with
    | [y0, y1, y2], _, [v0, v1, v2], _ =>
      have g0 : DataW.trod enc Try.prog W base sp held n 3 [v0] = some y0 := hf 0 _ rfl
      have g1 : DataW.trod enc Try.prog W base sp held n 3 [v1] = some y1 := hf 1 _ rfl
      have g2 : DataW.trod enc Try.prog W base sp held n 22 [v2] = some y2 := hf 2 _ rfl
      obtain ⟨k, e0, _, w0⟩ := DataW.trod_int Try.underlying3 g0
      obtain ⟨m, e1, _, w1⟩ := DataW.trod_int Try.underlying3 g1
      obtain rfl : v0 = .int .i64 k := by simpa using e0
      obtain rfl : v1 = .int .i64 m := by simpa using e1
      rcases DataW.trod_slice Try.underlying22 g2 with ⟨e2, _⟩ | ⟨a, len, cap, elems, rest, n', hn', e2, _, _, hle, hm, hlen, hel, _, _⟩
      · obtain rfl : v2 = .slice none 0 0 := by simpa using e2
        exact ⟨.mk k m [], none, 0, rfl, .mk (fun _ => none) (fun _ => 0) (by simp) (by omega) (fun i x hx => by simp at hx) (fun i x hx => by simp at hx), w0, w1⟩
      · obtain rfl : v2 = .slice (some a) len cap := by simpa using e2
        have hc3 : Try.prog.cellsOf 24 = 3 := by kernel_rfl
        rw [hc3] at hel
        have each : ∀ i, i < len → ∃ q : Lv × Option Addr × Nat, W.cells? base (a.add (i * 3)) 3 = some [.int .i64 q.1.kind, .int .i64 q.1.num, .slice q.2.1 q.1.kids.length q.2.2] ∧ LvS W (fun _ => True) q.2.1 q.2.2 q.1 := by
          intro i hi
          have hq := hel i hi
          rw [List.getElem?_eq_getElem (by omega)] at hq
          obtain ⟨cs', h1, h2⟩ := Option.bind_eq_some_iff.1 hq
          obtain ⟨l, A, c, rfl, h3, _⟩ := ih n' (by omega) cs' _ h2
          exact ⟨(l, A, c), h1, h3⟩
        obtain ⟨q, hq⟩ := choose_lt each
        have hcell : ∀ i, i < len → ∀ j, j < 3 → W.cell? ((a.add (i * 3)).add j) = ([.int .i64 (q i).1.kind, .int .i64 (q i).1.num, .slice (q i).2.1 (q i).1.kids.length (q i).2.2] : List Value)[j]? := fun i hi j hj => (World.cells?_some (hq i hi).1).2.2 j hj
        have hget : ∀ (i : Nat) (x : Lv), ((List.range len).map fun i => (q i).1)[i]? = some x → i < len ∧ x = (q i).1 := by
          intro i x hx
          have hi : i < len := by
            rcases Nat.lt_or_ge i len with h | h
            · exact h
            · rw [List.getElem?_eq_none (by simpa using h)] at hx; cases hx
          rw [List.getElem?_map, List.getElem?_range hi] at hx
          exact ⟨hi, (Option.some.inj hx).symm⟩
        refine ⟨.mk k m ((List.range len).map fun i => (q i).1), some a, cap, by simp [Lv.kind, Lv.num, Lv.kids], .mk (fun i => (q i).2.1) (fun i => (q i).2.2) (by simpa using hle) (by simp only [maxLen] at hm; omega) (fun i x hx => ?_) (fun i x hx => ?_), w0, w1⟩
        · obtain ⟨hi, rfl⟩ := hget i x hx
          have hsp : a.spot = none := by
            have h0 := hcell 0 (by omega) 0 (by omega)
            simp only [Nat.zero_mul, Addr.add, if_true] at h0
            cases hs : a.spot with
            | none => rfl
            | some z => simp [World.cell?, hs] at h0; split at h0 <;> simp at h0
          obtain ⟨b, o, z⟩ := a
          obtain rfl : z = none := hsp
          have c0 := hcell i hi 0 (by omega)
          have c1 := hcell i hi 1 (by omega)
          have c2 := hcell i hi 2 (by omega)
          simp only [add_flat] at c0 c1 c2
          exact ⟨_, rfl, trivial, rfl, by rw [add_flat]; exact c0, by rw [add_flat]; exact c1, by rw [add_flat]; exact c2⟩
        · obtain ⟨hi, rfl⟩ := hget i x hx
          exact (hq i hi).2
theorem lv_in {H : Type} {enc : TypeId × Value → H} {W : World} {base : Nat} {sp : Nat → Bool} {held : Bool} {v : Value} {d : DataW H} {ps : List MemPlace} {r : Reach} {b0 : Nat} (hv : Value.okWide Try.prog W r b0 24 v) (h : DataW.Trod enc Try.prog W base sp held 24 v d ps) :
    ∃ (l : Lv) (A : Option Addr) (c : Nat), v = lvV A c l ∧ LvS W (fun _ => True) A c l ∧ (Lit.int .i64 l.kind).wf = true ∧ (Lit.int .i64 l.num).wf = true := by
  obtain ⟨cs, rfl, hcs⟩ := okWide_struct Try.underlying24 hv
  obtain ⟨fuel, hf⟩ := h
  obtain ⟨l, A, c, he, hl, hk, hn⟩ := lv_open fuel fuel (Nat.le_refl _) _ _ hf
  refine ⟨l, A, c, ?_, hl, hk, hn⟩
  unfold lvV
  congr 1
  apply Array.toList_inj.1
  simpa [Value.cells] using he
end Go.Proofs.Ytjlhbaohippidaa

/-! LvsIn -/
namespace Go.Proofs.Ytjlhbaohippidaa
open Go.RowKit Go.Proofs.YtjlhbaohippidaaW.PrintWords Go.RegionInvYtjlhbaohippidaa Go.ChangeShapes Go.WideShapes Go.Deep

theorem lvs_open {H : Type} {enc : TypeId × Value → H} {W : World} {base : Nat} {sp : Nat → Bool} {held : Bool} {fuel : Nat} {v2 : Value} {y2 : DataW H × List MemPlace} (g2 : DataW.trod enc Try.prog W base sp held fuel 22 [v2] = some y2) :
    ∃ (vs : List Lv) (A : Option Addr) (c : Nat), v2 = .slice A vs.length c ∧ LvS W (fun _ => True) A c (.mk 0 0 vs) := by
  rcases DataW.trod_slice Try.underlying22 g2 with ⟨e2, _⟩ | ⟨a, len, cap, elems, rest, n', hn', e2, _, _, hle, hm, hlen, hel, _, _⟩
  · obtain rfl : v2 = .slice none 0 0 := by simpa using e2
    exact ⟨[], none, 0, rfl, .mk (fun _ => none) (fun _ => 0) (by simp) (by omega) (fun i x hx => by simp at hx) (fun i x hx => by simp at hx)⟩
  · obtain rfl : v2 = .slice (some a) len cap := by simpa using e2
    have hc3 : Try.prog.cellsOf 24 = 3 := by kernel_rfl
    rw [hc3] at hel
    have each : ∀ i, i < len → ∃ q : Lv × Option Addr × Nat, W.cells? base (a.add (i * 3)) 3 = some [.int .i64 q.1.kind, .int .i64 q.1.num, .slice q.2.1 q.1.kids.length q.2.2] ∧ LvS W (fun _ => True) q.2.1 q.2.2 q.1 := by
      intro i hi
      have hq := hel i hi
      rw [List.getElem?_eq_getElem (by omega)] at hq
      obtain ⟨cs', h1, h2⟩ := Option.bind_eq_some_iff.1 hq
      obtain ⟨l, A, c, rfl, h3, _⟩ := lv_open n' n' (Nat.le_refl _) cs' _ h2
      exact ⟨(l, A, c), h1, h3⟩
    obtain ⟨q, hq⟩ := choose_lt each
    have hcell : ∀ i, i < len → ∀ j, j < 3 → W.cell? ((a.add (i * 3)).add j) = ([.int .i64 (q i).1.kind, .int .i64 (q i).1.num, .slice (q i).2.1 (q i).1.kids.length (q i).2.2] : List Value)[j]? := fun i hi j hj => (World.cells?_some (hq i hi).1).2.2 j hj
    have hget : ∀ (i : Nat) (x : Lv), ((List.range len).map fun i => (q i).1)[i]? = some x → i < len ∧ x = (q i).1 := by
      intro i x hx
      have hi : i < len := by
        rcases Nat.lt_or_ge i len with h | h
        · exact h
        · rw [List.getElem?_eq_none (by simpa using h)] at hx; cases hx
      rw [List.getElem?_map, List.getElem?_range hi] at hx
      exact ⟨hi, (Option.some.inj hx).symm⟩
    refine ⟨(List.range len).map fun i => (q i).1, some a, cap, by simp, .mk (fun i => (q i).2.1) (fun i => (q i).2.2) (by simpa using hle) (by simp only [maxLen] at hm; omega) (fun i x hx => ?_) (fun i x hx => ?_)⟩
    · obtain ⟨hi, rfl⟩ := hget i x hx
      have hsp : a.spot = none := by
        have h0 := hcell 0 (by omega) 0 (by omega)
        simp only [Nat.zero_mul, Addr.add, if_true] at h0
        cases hs : a.spot with
        | none => rfl
        | some z => simp [World.cell?, hs] at h0; split at h0 <;> simp at h0
      obtain ⟨b, o, z⟩ := a
      obtain rfl : z = none := hsp
      have c0 := hcell i hi 0 (by omega)
      have c1 := hcell i hi 1 (by omega)
      have c2 := hcell i hi 2 (by omega)
      simp only [add_flat] at c0 c1 c2
      exact ⟨_, rfl, trivial, rfl, by rw [add_flat]; exact c0, by rw [add_flat]; exact c1, by rw [add_flat]; exact c2⟩
    · obtain ⟨hi, rfl⟩ := hget i x hx
      exact (hq i hi).2
theorem lvs_in {H : Type} {enc : TypeId × Value → H} {W : World} {base : Nat} {sp : Nat → Bool} {held : Bool} {v : Value} {d : DataW H} {ps : List MemPlace} {r : Reach} {b0 : Nat} (hv : Value.okWide Try.prog W r b0 22 v) (h : DataW.Trod enc Try.prog W base sp held 22 v d ps) :
    ∃ (vs : List Lv) (A : Option Addr) (c n : Nat), v = .slice A n c ∧ n = vs.length ∧ LvS W (fun _ => True) A c (.mk 0 0 vs) := by
  obtain ⟨a, len, cap, rfl⟩ := okWide_slice Try.underlying22 hv
  obtain ⟨fuel, hf⟩ := h
  obtain ⟨vs, A, c, he, hl⟩ := lvs_open (v2 := .slice a len cap) hf
  exact ⟨vs, A, c, _, he, rfl, hl⟩
end Go.Proofs.Ytjlhbaohippidaa
