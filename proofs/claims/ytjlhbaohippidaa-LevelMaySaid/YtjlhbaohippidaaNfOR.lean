/-
  One round of or: its region.
-/
import Derived.Test.YtjlhbaohippidaaNfP
import Derived.Test.YtjlhbaohippidaaOpsE
namespace Go.Proofs.Ytjlhbaohippidaa
open Go.RowKit Go.Proofs.YtjlhbaohippidaaW.PrintWords Go.RegionInvYtjlhbaohippidaa Go.RegionEYtjlhbaohippidaa
set_option linter.unusedVariables false

def or_ops : List Oper := [
  { dst := some 23, op := Go.Op.fieldAddr 52 (Go.Operand.tmp 5) 1, type := 0, pos := "level.go:171", after := #[], guard := none },
  { dst := some 24, op := Go.Op.load 29 (Go.Operand.tmp 23), type := 29, pos := "level.go:171", after := #[{ on := 0, ground := Go.Ground.data }], guard := none },
  { dst := some 25, op := Go.Op.load 52 (Go.Operand.tmp 2), type := 52, pos := "level.go:171", after := #[], guard := none },
  { dst := some 26, op := Go.Op.move (Go.Operand.tmp 6), type := 3, pos := "level.go:171", after := #[], guard := none },
  { dst := some 27, op := Go.Op.call { callee := Go.Callee.value (Go.Operand.func 40), args := #[Go.Operand.tmp 25, Go.Operand.tmp 26], argTypes := #[52, 3] }, type := 3, pos := "level.go:171", after := #[{ on := 2, ground := Go.Ground.data }, { on := 3, ground := Go.Ground.data }], guard := none },
  { dst := some 28, op := Go.Op.load 52 (Go.Operand.tmp 3), type := 52, pos := "level.go:171", after := #[], guard := none },
  { dst := some 29, op := Go.Op.move (Go.Operand.tmp 6), type := 3, pos := "level.go:171", after := #[], guard := none },
  { dst := some 30, op := Go.Op.call { callee := Go.Callee.value (Go.Operand.func 40), args := #[Go.Operand.tmp 28, Go.Operand.tmp 29], argTypes := #[52, 3] }, type := 3, pos := "level.go:171", after := #[{ on := 5, ground := Go.Ground.data }, { on := 6, ground := Go.Ground.data }, { on := 4, ground := Go.Ground.chain }], guard := none },
  { dst := some 31, op := Go.Op.call { callee := Go.Callee.builtin Go.Builtin.max, args := #[Go.Operand.tmp 27, Go.Operand.tmp 30], argTypes := #[3, 3] }, type := 3, pos := "level.go:171", after := #[{ on := 4, ground := Go.Ground.data }, { on := 7, ground := Go.Ground.data }], guard := none },
  { dst := some 32, op := Go.Op.buildSlice 29 1 #[(0, Go.Operand.tmp 31)], type := 29, pos := "level.go:171", after := #[{ on := 8, ground := Go.Ground.data }], guard := none },
  { dst := some 33, op := Go.Op.call { callee := Go.Callee.builtin Go.Builtin.append, args := #[Go.Operand.tmp 24, Go.Operand.tmp 32], argTypes := #[29, 29] }, type := 29, pos := "level.go:171", after := #[{ on := 1, ground := Go.Ground.data }, { on := 9, ground := Go.Ground.data }, { on := 7, ground := Go.Ground.chain }], guard := none },
  { dst := some 34, op := Go.Op.fieldAddr 52 (Go.Operand.tmp 5) 1, type := 0, pos := "level.go:171", after := #[{ on := 0, ground := Go.Ground.phase }, { on := 1, ground := Go.Ground.phase }, { on := 2, ground := Go.Ground.phase }, { on := 3, ground := Go.Ground.phase }, { on := 4, ground := Go.Ground.phase }, { on := 5, ground := Go.Ground.phase }, { on := 6, ground := Go.Ground.phase }, { on := 7, ground := Go.Ground.phase }, { on := 8, ground := Go.Ground.phase }, { on := 9, ground := Go.Ground.phase }, { on := 10, ground := Go.Ground.phase }], guard := none },
  { dst := none, op := Go.Op.store 29 (Go.Operand.tmp 34) (Go.Operand.tmp 33), type := 0, pos := "level.go:171", after := #[{ on := 11, ground := Go.Ground.data }, { on := 10, ground := Go.Ground.data }, { on := 10, ground := Go.Ground.chain }, { on := 0, ground := Go.Ground.phase }, { on := 1, ground := Go.Ground.phase }, { on := 2, ground := Go.Ground.phase }, { on := 3, ground := Go.Ground.phase }, { on := 4, ground := Go.Ground.phase }, { on := 5, ground := Go.Ground.phase }, { on := 6, ground := Go.Ground.phase }, { on := 7, ground := Go.Ground.phase }, { on := 8, ground := Go.Ground.phase }, { on := 9, ground := Go.Ground.phase }, { on := 10, ground := Go.Ground.phase }], guard := none }]
def or_F (w0 : World) (b g : Nat) (c c' x i : Int) (A A' : Option Addr) (n cap n' cap' : Nat) (V : Value) (ks ks' ys : List Int) : Nat → (Nat → Value) → Value → World → (Nat → Prop) → Prop := fun rix => match rix with
  | 0 => fun _ v _ _ => v = .pointer (some ⟨g, 1, none⟩)
  | 1 => fun τ v w O => (v = V ∧ (w.ownsRow (g + 1) 3 1 V ys.length (nums .i64 ys)) ∧ ∀ k, V.ownBlock = some k → O k)
  | 2 => fun _ v _ _ => v = .agg #[.int .i64 c, .slice A n cap]
  | 3 => fun _ v _ _ => v = .int .i64 i
  | 4 => fun _ v _ _ => v = .int .i64 (atP ks i)
  | 5 => fun _ v _ _ => v = .agg #[.int .i64 c', .slice A' n' cap']
  | 6 => fun _ v _ _ => v = .int .i64 i
  | 7 => fun _ v _ _ => v = .int .i64 (atP ks' i)
  | 8 => fun _ v _ _ => v = .int .i64 (max (atP ks i) (atP ks' i))
  | 9 => fun τ v w O => ∃ p, v = .slice (some ⟨p, 0, none⟩) 1 1 ∧ w.heap[p]? = some (.cells #[.int .i64 (max (atP ks i) (atP ks' i))] 3 (0, 0)) ∧ O p
  | 10 => fun τ v w O => OwnO (g + 1) 3 1 (ys.length + 1) (nums .i64 (ys ++ [(max (atP ks i) (atP ks' i))])) v w O
  | 11 => fun τ v w O => (v = .pointer (some ⟨g, 1, none⟩) ∧ w.heap[g]? = some (.cells #[.int .i64 x, V] 52 (0, 0)) ∧ O g)
  | 12 => fun τ v w O => ∃ V', w.heap[g]? = some (.cells #[.int .i64 x, V'] 52 (0, 0)) ∧ OwnO (g + 1) 3 1 (ys.length + 1) (nums .i64 (ys ++ [(max (atP ks i) (atP ks' i))])) V' w O ∧ O g
  | _ => fun _ _ _ _ => True
def or_C : Nat → List Nat := fun rix => match rix with
  | 10 => [1, 9]
  | 12 => [10, 11]
  | _ => []
theorem or_nw2 : nwB or_ops.toArray 2 = true := by kernel_rfl
theorem or_nw3 : nwB or_ops.toArray 3 = true := by kernel_rfl
theorem or_nw5 : nwB or_ops.toArray 5 = true := by kernel_rfl
theorem or_nw6 : nwB or_ops.toArray 6 = true := by kernel_rfl
set_option maxRecDepth 100000 in
set_option maxHeartbeats 8000000 in
theorem or_obs (w0 : World) (b g : Nat) (c c' x i : Int) (A A' : Option Addr) (n cap n' cap' : Nat) (V : Value) (ks ks' ys : List Int) (hx2 : w0.heap[b]? = some (.cells #[.int .i64 c, .slice A n cap] 52 (0, 0))) (hx3 : w0.heap[b + 1]? = some (.cells #[.int .i64 c', .slice A' n' cap'] 52 (0, 0))) (hx5 : w0.heap[g]? = some (.cells #[.int .i64 x, V] 52 (0, 0))) (hrow : w0.ownsRow (g + 1) 3 1 V ys.length (nums .i64 ys)) (hr : IntsS w0 (fun k => k < b) A n ks) (hr' : IntsS w0 (fun k => k < b) A' n' ks') (hbg : b + 1 < g) (hi0 : 0 ≤ i) (hy : ys.length ≤ 1000000) (Q : Exit → Act → World → Prop) (a0 : Act) (hi2 : a0.tmps.getD 2 undef = .pointer (some ⟨b, 0, none⟩)) (hi3 : a0.tmps.getD 3 undef = .pointer (some ⟨b + 1, 0, none⟩)) (hi5 : a0.tmps.getD 5 undef = .pointer (some ⟨g, 0, none⟩)) (hi6 : a0.tmps.getD 6 undef = .int .i64 i) :
    ObsE Try.prog or_ops.toArray Q (est2 1 11 (fun k => V.ownBlock = some k) (fun k => k = g)) or_C (or_F w0 b g c c' x i A A' n cap n' cap' V ks ks' ys) a0 w0 or_ops.toArray.toList 0 := by
  have nw2 := or_nw2
  have nw3 := or_nw3
  have nw5 := or_nw5
  have nw6 := or_nw6
  refine ⟨?_, ?_, ?_, ?_, ?_, ?_, ?_, ?_, ?_, ?_, ?_, ?_, ?_, trivial⟩
  · refine ⟨⟨fun τ => stableE_det _, leans_not⟩, ?_⟩
    intro a w O hk
    have e5 : a.eval (.tmp 5) = .pointer (some ⟨g, 0, none⟩) := (hk.init 5 (initialB_of_nw nw5)).trans hi5
    exact obE_run (wanted_none rfl) (by unfold execOp; simp only []; rw [e5]; go_simp) rfl
  · refine ⟨⟨fun τ => fun v w w' O h hz hk => ⟨h.1, ownsRow_same h.2.1 (fun k hv => hk k (own_lt h.2.1 k hv) (.inr (h.2.2 k hv))), h.2.2⟩, leans_not⟩, ?_⟩
    intro a w O hk
    have e23 : a.eval (.tmp 23) = .pointer (some ⟨g, 1, none⟩) := hk.fact 0 _ 23 rfl rfl rfl rfl
    have x2 := hk.world.still hx2 (fun ⟨_, h⟩ => h.elim (fun h => by have := own_base hrow _ h.2; omega) (fun h => by have := h.2; omega))
    have x3 := hk.world.still hx3 (fun ⟨_, h⟩ => h.elim (fun h => by have := own_base hrow _ h.2; omega) (fun h => by have := h.2; omega))
    have x5 : w.heap[g]? = some (.cells #[.int .i64 x, V] 52 (0, 0)) := (hk.est 11 _ rfl (.inr rfl) g (.inr ⟨rfl, rfl⟩)).trans hx5
    have hrow' := ownsRow_same hrow (fun k hv => hk.est 1 _ rfl (.inl rfl) k (.inl ⟨rfl, hv⟩))
    obtain ⟨A5, c5, rfl⟩ := own_slice hrow
    have hc5 : w.cell? ⟨g, 1, none⟩ = some (.slice A5 ys.length c5) := (row2 x5).2.1
    exact obE_take (fun k => (Value.slice A5 ys.length c5).ownBlock = some k) (wanted_none rfl) (by unfold execOp; simp only []; rw [e23]; go_simp) ⟨rfl, hrow', fun _ h => h⟩ (fun k h => .inr (.inl ⟨rfl, h⟩))
  · refine ⟨⟨fun τ => stableE_det _, leans_not⟩, ?_⟩
    intro a w O hk
    have e2 : a.eval (.tmp 2) = .pointer (some ⟨b, 0, none⟩) := (hk.init 2 (initialB_of_nw nw2)).trans hi2
    have x2 := hk.world.still hx2 (fun ⟨_, h⟩ => h.elim (fun h => by have := own_base hrow _ h.2; omega) (fun h => by have := h.2; omega))
    have x3 := hk.world.still hx3 (fun ⟨_, h⟩ => h.elim (fun h => by have := own_base hrow _ h.2; omega) (fun h => by have := h.2; omega))
    exact obE_loadRow rfl e2 x2 Try.underlying52 rfl (by kernel_rfl) (wanted_none rfl) rfl
  · refine ⟨⟨fun τ => stableE_det _, leans_not⟩, ?_⟩
    intro a w O hk
    have e6 : a.eval (.tmp 6) = .int .i64 i := (hk.init 6 (initialB_of_nw nw6)).trans hi6
    exact toE (ob_move rfl e6 (wanted_none rfl) rfl)
  · refine ⟨⟨fun τ => stableE_det _, leans_not⟩, ?_⟩
    intro a w O hk
    have e25 : a.eval (.tmp 25) = .agg #[.int .i64 c, .slice A n cap] := hk.fact 2 _ 25 rfl rfl rfl rfl
    have e26 : a.eval (.tmp 26) = .int .i64 i := hk.fact 3 _ 26 rfl rfl rfl rfl
    have x2 := hk.world.still hx2 (fun ⟨_, h⟩ => h.elim (fun h => by have := own_base hrow _ h.2; omega) (fun h => by have := h.2; omega))
    have x3 := hk.world.still hx3 (fun ⟨_, h⟩ => h.elim (fun h => by have := own_base hrow _ h.2; omega) (fun h => by have := h.2; omega))
    have hr' := (hr.mono (fun k hk' hz => est2_fix hz (fun h => by have := own_base hrow _ h; omega) (fun h => by omega))).same (fun k hF hz => hk.fix k hF)
    refine obE_call #[.agg #[.int .i64 c, .slice A n cap], .int .i64 i] rfl rfl rfl rfl (by simp only [List.map_cons, List.map_nil]; rw [e25, e26]) (wanted_none rfl) ((at_calls A n cap c ks i w hr'.1 hi0).mono ?_)
    rintro e w' ⟨rfl, hB⟩
    exact ⟨_, fun _ => False, rfl, rfl, Chg.of_below hB, fun _ h => h.elim⟩
  · refine ⟨⟨fun τ => stableE_det _, leans_not⟩, ?_⟩
    intro a w O hk
    have e3 : a.eval (.tmp 3) = .pointer (some ⟨b + 1, 0, none⟩) := (hk.init 3 (initialB_of_nw nw3)).trans hi3
    have x2 := hk.world.still hx2 (fun ⟨_, h⟩ => h.elim (fun h => by have := own_base hrow _ h.2; omega) (fun h => by have := h.2; omega))
    have x3 := hk.world.still hx3 (fun ⟨_, h⟩ => h.elim (fun h => by have := own_base hrow _ h.2; omega) (fun h => by have := h.2; omega))
    exact obE_loadRow rfl e3 x3 Try.underlying52 rfl (by kernel_rfl) (wanted_none rfl) rfl
  · refine ⟨⟨fun τ => stableE_det _, leans_not⟩, ?_⟩
    intro a w O hk
    have e6 : a.eval (.tmp 6) = .int .i64 i := (hk.init 6 (initialB_of_nw nw6)).trans hi6
    exact toE (ob_move rfl e6 (wanted_none rfl) rfl)
  · refine ⟨⟨fun τ => stableE_det _, leans_not⟩, ?_⟩
    intro a w O hk
    have e28 : a.eval (.tmp 28) = .agg #[.int .i64 c', .slice A' n' cap'] := hk.fact 5 _ 28 rfl rfl rfl rfl
    have e29 : a.eval (.tmp 29) = .int .i64 i := hk.fact 6 _ 29 rfl rfl rfl rfl
    have x2 := hk.world.still hx2 (fun ⟨_, h⟩ => h.elim (fun h => by have := own_base hrow _ h.2; omega) (fun h => by have := h.2; omega))
    have x3 := hk.world.still hx3 (fun ⟨_, h⟩ => h.elim (fun h => by have := own_base hrow _ h.2; omega) (fun h => by have := h.2; omega))
    have hr' := (hr'.mono (fun k hk' hz => est2_fix hz (fun h => by have := own_base hrow _ h; omega) (fun h => by omega))).same (fun k hF hz => hk.fix k hF)
    refine obE_call #[.agg #[.int .i64 c', .slice A' n' cap'], .int .i64 i] rfl rfl rfl rfl (by simp only [List.map_cons, List.map_nil]; rw [e28, e29]) (wanted_none rfl) ((at_calls A' n' cap' c' ks' i w hr'.1 hi0).mono ?_)
    rintro e w' ⟨rfl, hB⟩
    exact ⟨_, fun _ => False, rfl, rfl, Chg.of_below hB, fun _ h => h.elim⟩
  · refine ⟨⟨fun τ => stableE_det _, leans_not⟩, ?_⟩
    intro a w O hk
    have e27 : a.eval (.tmp 27) = .int .i64 (atP ks i) := hk.fact 4 _ 27 rfl rfl rfl rfl
    have e30 : a.eval (.tmp 30) = .int .i64 (atP ks' i) := hk.fact 7 _ 30 rfl rfl rfl rfl
    have x2 := hk.world.still hx2 (fun ⟨_, h⟩ => h.elim (fun h => by have := own_base hrow _ h.2; omega) (fun h => by have := h.2; omega))
    have x3 := hk.world.still hx3 (fun ⟨_, h⟩ => h.elim (fun h => by have := own_base hrow _ h.2; omega) (fun h => by have := h.2; omega))
    exact obE_maxInt rfl e27 e30 (wanted_none rfl) rfl
  · refine ⟨⟨fun τ => stableE_ex fun p => stableE_and stableE_pure (stableE_block _ _), leans_not⟩, ?_⟩
    intro a w O hk
    have e31 : a.eval (.tmp 31) = .int .i64 (max (atP ks i) (atP ks' i)) := hk.fact 8 _ 31 rfl rfl rfl rfl
    have x2 := hk.world.still hx2 (fun ⟨_, h⟩ => h.elim (fun h => by have := own_base hrow _ h.2; omega) (fun h => by have := h.2; omega))
    have x3 := hk.world.still hx3 (fun ⟨_, h⟩ => h.elim (fun h => by have := own_base hrow _ h.2; omega) (fun h => by have := h.2; omega))
    exact obE_lit (cs := #[.int .i64 (max (atP ks i) (atP ks' i))]) (e := 3) (wanted_none rfl) (by unfold execOp; simp only [List.map_toArray, List.map_cons, List.map_nil]; rw [e31]; go_simp) (fun w' h _ => ⟨_, rfl, h, rfl⟩)
  · refine ⟨⟨fun τ => stableE_own _ _ _ _ _, leans_not⟩, ?_⟩
    intro a w O hk
    have f24 := hk.fact 1 _ 24 rfl rfl rfl rfl
    have g24 := hk.owns 1 rfl rfl
    have f32 := hk.fact 9 _ 32 rfl rfl rfl rfl
    have g32 := hk.owns 9 rfl rfl
    have x2 := hk.world.still hx2 (fun ⟨_, h⟩ => h.elim (fun h => by have := own_base hrow _ h.2; omega) (fun h => by have := h.2; omega))
    have x3 := hk.world.still hx3 (fun ⟨_, h⟩ => h.elim (fun h => by have := own_base hrow _ h.2; omega) (fun h => by have := h.2; omega))
    obtain ⟨e24, hrow1, hO1⟩ := f24
    rw [← e24] at hrow1 hO1
    obtain ⟨p, e32, hp, -⟩ := f32
    have hz := hk.world.size
    have hg := blk_lt hx5
    have hlit := reads_lit hp
    refine obE_listGrew (a.eval (.tmp 24)) (wanted_none rfl) (fun k hk => .inl ⟨1, by simp [or_C], hO1 k hk⟩) (fun Q' hQ => ?_)
    refine print_append_row (w0 := w) (g + 1) rfl (.tmp 24) (.tmp 32) 29 3 .i64 8 rfl Try.underlying29 infoI64 (by decide) (a.eval (.tmp 24)) ys [(max (atP ks i) (atP ks' i))] (some ⟨p, 0, none⟩) 1 1 rfl e32 hrow1 hlit (Below.refl _ _) (by omega) (by omega) ?_
    intro v1 w1 ho _ hg hat
    exact hQ v1 w1 (by simpa using ho) hg hat
  · refine ⟨⟨fun τ => stableE_and stableE_pure (stableE_block _ _), leans_not⟩, ?_⟩
    intro a w O hk
    have e5 : a.eval (.tmp 5) = .pointer (some ⟨g, 0, none⟩) := (hk.init 5 (initialB_of_nw nw5)).trans hi5
    have x2 := hk.world.still hx2 (fun ⟨_, h⟩ => h.elim (fun h => by have := own_base hrow _ h.2; omega) (fun h => by have := h.2; omega))
    have x3 := hk.world.still hx3 (fun ⟨_, h⟩ => h.elim (fun h => by have := own_base hrow _ h.2; omega) (fun h => by have := h.2; omega))
    have x5 : w.heap[g]? = some (.cells #[.int .i64 x, V] 52 (0, 0)) := (hk.est 11 _ rfl (.inl rfl) g (.inr ⟨rfl, rfl⟩)).trans hx5
    exact obE_take (fun k => k = g) (wanted_none rfl) (by unfold execOp; simp only []; rw [e5]; go_simp) ⟨rfl, x5, rfl⟩ (fun k h => .inr (.inr ⟨rfl, h⟩))
  · refine ⟨⟨fun τ => fun v w w' O h hz hk => by obtain ⟨V', h1, h2, h3⟩ := h; exact ⟨V', (hk g (blk_lt h1) (.inr h3)).trans h1, stableE_own _ _ _ _ _ V' w w' O h2 hz hk, h3⟩, leans_not⟩, ?_⟩
    intro a w O hk
    have f34 := hk.fact 11 _ 34 rfl rfl rfl rfl
    have g34 := hk.owns 11 rfl rfl
    have f33 := hk.fact 10 _ 33 rfl rfl rfl rfl
    have g33 := hk.owns 10 rfl rfl
    have x2 := hk.world.still hx2 (fun ⟨_, h⟩ => h.elim (fun h => by have := own_base hrow _ h.2; omega) (fun h => by have := h.2; omega))
    have x3 := hk.world.still hx3 (fun ⟨_, h⟩ => h.elim (fun h => by have := own_base hrow _ h.2; omega) (fun h => by have := h.2; omega))
    obtain ⟨e34, x5, hO11⟩ := f34
    obtain ⟨h10, hO10⟩ := f33
    obtain ⟨r0, r1, z0, z1⟩ := row2 x5
    obtain ⟨A3, c3, e33⟩ := own_slice h10
    rw [e33] at h10 hO10
    have hne : (Value.slice A3 (ys.length + 1) c3).ownBlock ≠ some g := fun e => by have := own_base h10 _ e; omega
    refine obE_store (w' := w.setCell ⟨g, 1, none⟩ (.slice A3 (ys.length + 1) c3)) (fun k => k = g ∨ (Value.slice A3 (ys.length + 1) c3).ownBlock = some k) (wanted_none rfl) (by unfold execOp; simp only []; rw [show a.eval (.tmp 34) = _ from e34, show a.eval (.tmp 33) = _ from e33]; go_simp) ((chg_set w g 1 _).mono fun k h => .inl ⟨11, by simp [or_C], by have h : k = g := h; rw [h]; exact hO11⟩) ⟨_, blk_put x5 1 _ rfl, ⟨own_setCell h10 (fun e => hne e.symm) _, fun k h => .inr h⟩, .inl rfl⟩ (fun k h => .inl (.inl ?_))
    rcases h with rfl | h
    · exact ⟨11, by simp [or_C], hO11⟩
    · exact ⟨10, by simp [or_C], hO10 k h⟩
set_option maxRecDepth 100000 in
set_option maxHeartbeats 8000000 in
theorem or_region {Q : Exit → Act → World → Prop} {id : Nat} (w0 : World) (b g : Nat) (c c' x i : Int) (A A' : Option Addr) (n cap n' cap' : Nat) (V : Value) (ks ks' ys : List Int) {s0 s1 s4 s7 s8 s9 s10 s11 s12 s13 s14 s15 s16 s17 s18 s19 s20 s21 s22 s23 s24 s25 s26 s27 s28 s29 s30 s31 s32 s33 s34 s35 s36 : Value} (hx2 : w0.heap[b]? = some (.cells #[.int .i64 c, .slice A n cap] 52 (0, 0))) (hx3 : w0.heap[b + 1]? = some (.cells #[.int .i64 c', .slice A' n' cap'] 52 (0, 0))) (hx5 : w0.heap[g]? = some (.cells #[.int .i64 x, V] 52 (0, 0))) (hrow : w0.ownsRow (g + 1) 3 1 V ys.length (nums .i64 ys)) (hr : IntsS w0 (fun k => k < b) A n ks) (hr' : IntsS w0 (fun k => k < b) A' n' ks') (hbg : b + 1 < g) (hi0 : 0 ≤ i) (hy : ys.length ≤ 1000000)
    (hend : ∀ (w' : World) (u24 : Value) (u32 : Value) (u33 : Value) (u34 : Value) (v12 : Value) (O12 : Nat → Prop), Chg (fun k => (fun k => V.ownBlock = some k) k ∨ (fun k => k = g) k) w0 w' → (∃ V', w'.heap[g]? = some (.cells #[.int .i64 x, V'] 52 (0, 0)) ∧ OwnO (g + 1) 3 1 (ys.length + 1) (nums .i64 (ys ++ [(max (atP ks i) (atP ks' i))])) V' w' O12 ∧ O12 g) → (∀ k, O12 k → k < w'.heap.size ∧ ¬ Fix w0 (est2 1 11 (fun k => V.ownBlock = some k) (fun k => k = g)) k) → Q .normal { tmps := (s0 :: s1 :: (.pointer (some ⟨b, 0, none⟩) : Value) :: (.pointer (some ⟨b + 1, 0, none⟩) : Value) :: s4 :: (.pointer (some ⟨g, 0, none⟩) : Value) :: (.int .i64 i : Value) :: s7 :: s8 :: s9 :: s10 :: s11 :: s12 :: s13 :: s14 :: s15 :: s16 :: s17 :: s18 :: s19 :: s20 :: s21 :: s22 :: (.pointer (some ⟨g, 1, none⟩) : Value) :: u24 :: (.agg #[.int .i64 c, .slice A n cap] : Value) :: (.int .i64 i : Value) :: (.int .i64 (atP ks i) : Value) :: (.agg #[.int .i64 c', .slice A' n' cap'] : Value) :: (.int .i64 i : Value) :: (.int .i64 (atP ks' i) : Value) :: (.int .i64 (max (atP ks i) (atP ks' i)) : Value) :: u32 :: u33 :: u34 :: s35 :: s36 :: ([] : List Value)).toArray, defers := [] } w') :
    (Code.region id or_ops.toArray true).wp Try.prog Q { tmps := (s0 :: s1 :: (.pointer (some ⟨b, 0, none⟩) : Value) :: (.pointer (some ⟨b + 1, 0, none⟩) : Value) :: s4 :: (.pointer (some ⟨g, 0, none⟩) : Value) :: (.int .i64 i : Value) :: s7 :: s8 :: s9 :: s10 :: s11 :: s12 :: s13 :: s14 :: s15 :: s16 :: s17 :: s18 :: s19 :: s20 :: s21 :: s22 :: s23 :: s24 :: s25 :: s26 :: s27 :: s28 :: s29 :: s30 :: s31 :: s32 :: s33 :: s34 :: s35 :: s36 :: ([] : List Value)).toArray, defers := [] } w0 := by
  refine wp_region_est (by kernel_rfl) (est2 1 11 (fun k => V.ownBlock = some k) (fun k => k = g)) or_C (or_F w0 b g c c' x i A A' n cap n' cap' V ks ks' ys) (est2_dis (fun k h1 h2 => by have := own_base hrow _ h1; omega)) (est2_range (fun k h => own_lt hrow k h) (fun k h => by have := blk_lt hx5; omega)) (by rfl) (by kernel_rfl) (or_obs w0.drew b g c c' x i A A' n cap n' cap' V ks ks' ys hx2 hx3 hx5 hrow hr hr' hbg hi0 hy _ _ rfl rfl rfl rfl) ?_
  intro a w' O hd hs hb hf hf2 ha hsame
  have x0 : a.tmps.getD 0 undef = s0 := hsame 0 (nwB.spec (by kernel_rfl))
  have x1 : a.tmps.getD 1 undef = s1 := hsame 1 (nwB.spec (by kernel_rfl))
  have x2 : a.tmps.getD 2 undef = .pointer (some ⟨b, 0, none⟩) := hsame 2 (nwB.spec (by kernel_rfl))
  have x3 : a.tmps.getD 3 undef = .pointer (some ⟨b + 1, 0, none⟩) := hsame 3 (nwB.spec (by kernel_rfl))
  have x4 : a.tmps.getD 4 undef = s4 := hsame 4 (nwB.spec (by kernel_rfl))
  have x5 : a.tmps.getD 5 undef = .pointer (some ⟨g, 0, none⟩) := hsame 5 (nwB.spec (by kernel_rfl))
  have x6 : a.tmps.getD 6 undef = .int .i64 i := hsame 6 (nwB.spec (by kernel_rfl))
  have x7 : a.tmps.getD 7 undef = s7 := hsame 7 (nwB.spec (by kernel_rfl))
  have x8 : a.tmps.getD 8 undef = s8 := hsame 8 (nwB.spec (by kernel_rfl))
  have x9 : a.tmps.getD 9 undef = s9 := hsame 9 (nwB.spec (by kernel_rfl))
  have x10 : a.tmps.getD 10 undef = s10 := hsame 10 (nwB.spec (by kernel_rfl))
  have x11 : a.tmps.getD 11 undef = s11 := hsame 11 (nwB.spec (by kernel_rfl))
  have x12 : a.tmps.getD 12 undef = s12 := hsame 12 (nwB.spec (by kernel_rfl))
  have x13 : a.tmps.getD 13 undef = s13 := hsame 13 (nwB.spec (by kernel_rfl))
  have x14 : a.tmps.getD 14 undef = s14 := hsame 14 (nwB.spec (by kernel_rfl))
  have x15 : a.tmps.getD 15 undef = s15 := hsame 15 (nwB.spec (by kernel_rfl))
  have x16 : a.tmps.getD 16 undef = s16 := hsame 16 (nwB.spec (by kernel_rfl))
  have x17 : a.tmps.getD 17 undef = s17 := hsame 17 (nwB.spec (by kernel_rfl))
  have x18 : a.tmps.getD 18 undef = s18 := hsame 18 (nwB.spec (by kernel_rfl))
  have x19 : a.tmps.getD 19 undef = s19 := hsame 19 (nwB.spec (by kernel_rfl))
  have x20 : a.tmps.getD 20 undef = s20 := hsame 20 (nwB.spec (by kernel_rfl))
  have x21 : a.tmps.getD 21 undef = s21 := hsame 21 (nwB.spec (by kernel_rfl))
  have x22 : a.tmps.getD 22 undef = s22 := hsame 22 (nwB.spec (by kernel_rfl))
  have x23 : a.tmps.getD 23 undef = .pointer (some ⟨g, 1, none⟩) := (hf 0 _ 23 rfl rfl (by decide)).1
  have x25 : a.tmps.getD 25 undef = .agg #[.int .i64 c, .slice A n cap] := (hf 2 _ 25 rfl rfl (by decide)).1
  have x26 : a.tmps.getD 26 undef = .int .i64 i := (hf 3 _ 26 rfl rfl (by decide)).1
  have x27 : a.tmps.getD 27 undef = .int .i64 (atP ks i) := (hf 4 _ 27 rfl rfl (by decide)).1
  have x28 : a.tmps.getD 28 undef = .agg #[.int .i64 c', .slice A' n' cap'] := (hf 5 _ 28 rfl rfl (by decide)).1
  have x29 : a.tmps.getD 29 undef = .int .i64 i := (hf 6 _ 29 rfl rfl (by decide)).1
  have x30 : a.tmps.getD 30 undef = .int .i64 (atP ks' i) := (hf 7 _ 30 rfl rfl (by decide)).1
  have x31 : a.tmps.getD 31 undef = .int .i64 (max (atP ks i) (atP ks' i)) := (hf 8 _ 31 rfl rfl (by decide)).1
  have x35 : a.tmps.getD 35 undef = s35 := hsame 35 (nwB.spec (by kernel_rfl))
  have x36 : a.tmps.getD 36 undef = s36 := hsame 36 (nwB.spec (by kernel_rfl))
  have hl : a.tmps = (s0 :: s1 :: (.pointer (some ⟨b, 0, none⟩) : Value) :: (.pointer (some ⟨b + 1, 0, none⟩) : Value) :: s4 :: (.pointer (some ⟨g, 0, none⟩) : Value) :: (.int .i64 i : Value) :: s7 :: s8 :: s9 :: s10 :: s11 :: s12 :: s13 :: s14 :: s15 :: s16 :: s17 :: s18 :: s19 :: s20 :: s21 :: s22 :: (.pointer (some ⟨g, 1, none⟩) : Value) :: (a.tmps.getD 24 undef : Value) :: (.agg #[.int .i64 c, .slice A n cap] : Value) :: (.int .i64 i : Value) :: (.int .i64 (atP ks i) : Value) :: (.agg #[.int .i64 c', .slice A' n' cap'] : Value) :: (.int .i64 i : Value) :: (.int .i64 (atP ks' i) : Value) :: (.int .i64 (max (atP ks i) (atP ks' i)) : Value) :: (a.tmps.getD 32 undef : Value) :: (a.tmps.getD 33 undef : Value) :: (a.tmps.getD 34 undef : Value) :: s35 :: s36 :: ([] : List Value)).toArray := by
    have h := lit a.tmps 37 hs
    have e : ((List.range 37).map (fun i => a.tmps.getD i undef)).toArray = ((a.tmps.getD 0 undef : Value) :: (a.tmps.getD 1 undef : Value) :: (a.tmps.getD 2 undef : Value) :: (a.tmps.getD 3 undef : Value) :: (a.tmps.getD 4 undef : Value) :: (a.tmps.getD 5 undef : Value) :: (a.tmps.getD 6 undef : Value) :: (a.tmps.getD 7 undef : Value) :: (a.tmps.getD 8 undef : Value) :: (a.tmps.getD 9 undef : Value) :: (a.tmps.getD 10 undef : Value) :: (a.tmps.getD 11 undef : Value) :: (a.tmps.getD 12 undef : Value) :: (a.tmps.getD 13 undef : Value) :: (a.tmps.getD 14 undef : Value) :: (a.tmps.getD 15 undef : Value) :: (a.tmps.getD 16 undef : Value) :: (a.tmps.getD 17 undef : Value) :: (a.tmps.getD 18 undef : Value) :: (a.tmps.getD 19 undef : Value) :: (a.tmps.getD 20 undef : Value) :: (a.tmps.getD 21 undef : Value) :: (a.tmps.getD 22 undef : Value) :: (a.tmps.getD 23 undef : Value) :: (a.tmps.getD 24 undef : Value) :: (a.tmps.getD 25 undef : Value) :: (a.tmps.getD 26 undef : Value) :: (a.tmps.getD 27 undef : Value) :: (a.tmps.getD 28 undef : Value) :: (a.tmps.getD 29 undef : Value) :: (a.tmps.getD 30 undef : Value) :: (a.tmps.getD 31 undef : Value) :: (a.tmps.getD 32 undef : Value) :: (a.tmps.getD 33 undef : Value) :: (a.tmps.getD 34 undef : Value) :: (a.tmps.getD 35 undef : Value) :: (a.tmps.getD 36 undef : Value) :: ([] : List Value)).toArray := rfl
    rw [e, x0, x1, x2, x3, x4, x5, x6, x7, x8, x9, x10, x11, x12, x13, x14, x15, x16, x17, x18, x19, x20, x21, x22, x23, x25, x26, x27, x28, x29, x30, x31, x35, x36] at h
    exact h
  obtain ⟨tmps, defers⟩ := a
  obtain rfl : defers = [] := hd
  have hl' : tmps = _ := hl
  rw [hl']
  obtain ⟨⟨v12, hv12⟩, ho12⟩ := hf2 12 _ rfl rfl (by decide)
  have hb' := est2_chg hb
  exact hend w' _ _ _ _ v12 (O 12) ⟨hb'.os, hb'.tape, hb'.output, hb'.size, hb'.block⟩ hv12 ho12

end Go.Proofs.Ytjlhbaohippidaa
