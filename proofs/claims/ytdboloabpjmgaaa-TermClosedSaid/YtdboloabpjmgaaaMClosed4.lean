/-
  Merged: EqR, Eq, SamP, SeR, SeW, LiP, TClR, TwoB, LawTC, LvIn, LvsIn, TmInT.
-/
import Derived.Deep.Slices
import Derived.ChangeArms
import Derived.Test.YtdboloabpjmgaaaMClosed3
/-! EqR -/
namespace Go.Proofs.Ytdboloabpjmgaaa
open Go.RowKit Go.Proofs.YtdboloabpjmgaaaW.PrintWords Go.RegionInvYtdboloabpjmgaaa Go.RegionEYtdboloabpjmgaaa
set_option linter.unusedVariables false

def eq_ops : List Oper := [
  { dst := some 15, op := Go.Op.load 25 (Go.Operand.tmp 2), type := 25, pos := "level.go:245", after := #[], guard := none },
  { dst := some 16, op := Go.Op.call { callee := Go.Callee.value (Go.Operand.func 112), args := #[Go.Operand.tmp 15, Go.Operand.const (Go.Value.slice none 0 0)], argTypes := #[25, 99] }, type := 102, pos := "level.go:245", after := #[{ on := 0, ground := Go.Ground.data }], guard := none },
  { dst := some 17, op := Go.Op.call { callee := Go.Callee.value (Go.Operand.func 113), args := #[Go.Operand.tmp 16], argTypes := #[102] }, type := 102, pos := "level.go:245", after := #[{ on := 1, ground := Go.Ground.data }, { on := 1, ground := Go.Ground.chain }], guard := none },
  { dst := some 18, op := Go.Op.load 25 (Go.Operand.tmp 3), type := 25, pos := "level.go:245", after := #[], guard := none },
  { dst := some 19, op := Go.Op.call { callee := Go.Callee.value (Go.Operand.func 112), args := #[Go.Operand.tmp 18, Go.Operand.const (Go.Value.slice none 0 0)], argTypes := #[25, 99] }, type := 102, pos := "level.go:245", after := #[{ on := 3, ground := Go.Ground.data }, { on := 2, ground := Go.Ground.chain }], guard := none },
  { dst := some 20, op := Go.Op.call { callee := Go.Callee.value (Go.Operand.func 113), args := #[Go.Operand.tmp 19], argTypes := #[102] }, type := 102, pos := "level.go:245", after := #[{ on := 4, ground := Go.Ground.data }, { on := 4, ground := Go.Ground.chain }], guard := none },
  { dst := some 5, op := Go.Op.alloc 102, type := 0, pos := "level.go:245", after := #[], guard := none },
  { dst := some 6, op := Go.Op.alloc 102, type := 0, pos := "level.go:245", after := #[], guard := none },
  { dst := none, op := Go.Op.store 102 (Go.Operand.tmp 5) (Go.Operand.tmp 17), type := 0, pos := "level.go:245", after := #[{ on := 6, ground := Go.Ground.data }, { on := 2, ground := Go.Ground.data }, { on := 5, ground := Go.Ground.chain }, { on := 0, ground := Go.Ground.phase }, { on := 1, ground := Go.Ground.phase }, { on := 2, ground := Go.Ground.phase }, { on := 3, ground := Go.Ground.textOnly Go.Departure.lateStores }, { on := 4, ground := Go.Ground.textOnly Go.Departure.lateStoresUnsure }, { on := 5, ground := Go.Ground.textOnly Go.Departure.lateStoresUnsure }, { on := 6, ground := Go.Ground.phase }, { on := 7, ground := Go.Ground.phase }], guard := none },
  { dst := none, op := Go.Op.store 102 (Go.Operand.tmp 6) (Go.Operand.tmp 20), type := 0, pos := "level.go:245", after := #[{ on := 7, ground := Go.Ground.data }, { on := 5, ground := Go.Ground.data }, { on := 8, ground := Go.Ground.chain }, { on := 0, ground := Go.Ground.phase }, { on := 1, ground := Go.Ground.phase }, { on := 2, ground := Go.Ground.phase }, { on := 3, ground := Go.Ground.phase }, { on := 4, ground := Go.Ground.phase }, { on := 5, ground := Go.Ground.phase }, { on := 6, ground := Go.Ground.phase }, { on := 7, ground := Go.Ground.phase }, { on := 8, ground := Go.Ground.phase }], guard := none }]
def eq_F (w0 : World) (b : Nat) (Aa Ab : Option Addr) (ca cb : Nat) (la lb : Lv) : Nat → (Nat → Value) → Value → World → (Nat → Prop) → Prop := fun rix => match rix with
  | 0 => fun _ v _ _ => v = lvV Aa ca la
  | 1 => fun τ v w O => NfV (fun _ => False) (sumP la) v w O
  | 2 => fun τ v w O => NfV (fun _ => False) (shortN (sumP la)) v w O
  | 3 => fun _ v _ _ => v = lvV Ab cb lb
  | 4 => fun τ v w O => NfV (fun _ => False) (sumP lb) v w O
  | 5 => fun τ v w O => NfV (fun _ => False) (shortN (sumP lb)) v w O
  | 6 => fun τ v w O => ∃ p, v = .pointer (some ⟨p, 0, none⟩) ∧ w.heap[p]? = some (.cells #[.int .i64 0, .slice none 0 0] 102 (0, 0)) ∧ O p
  | 7 => fun τ v w O => ∃ p, v = .pointer (some ⟨p, 0, none⟩) ∧ w.heap[p]? = some (.cells #[.int .i64 0, .slice none 0 0] 102 (0, 0)) ∧ O p
  | 8 => fun τ v w O => ∃ p, τ 5 = .pointer (some ⟨p, 0, none⟩) ∧ NfBox p (fun _ => False) (shortN (sumP la)) w O
  | 9 => fun τ v w O => ∃ p, τ 6 = .pointer (some ⟨p, 0, none⟩) ∧ NfBox p (fun _ => False) (shortN (sumP lb)) w O
  | _ => fun _ _ _ _ => True
def eq_C : Nat → List Nat := fun rix => match rix with
  | 2 => [1]
  | 5 => [4]
  | 8 => [6, 2]
  | 9 => [7, 5]
  | _ => []
theorem eq_nw2 : nwB eq_ops.toArray 2 = true := by kernel_rfl
theorem eq_nw3 : nwB eq_ops.toArray 3 = true := by kernel_rfl
set_option maxRecDepth 100000 in
set_option maxHeartbeats 8000000 in
theorem eq_obs (w0 : World) (b : Nat) (Aa Ab : Option Addr) (ca cb : Nat) (la lb : Lv) (hx2 : w0.heap[b]? = some (.cells #[.int .i64 la.kind, .int .i64 la.num, .slice Aa la.kids.length ca] 25 (0, 0))) (hx3 : w0.heap[b + 1]? = some (.cells #[.int .i64 lb.kind, .int .i64 lb.num, .slice Ab lb.kids.length cb] 25 (0, 0))) (hina : LvIn w0 b Aa ca la) (hinb : LvIn w0 b Ab cb lb) (hsa : soundB la = true) (hsb : soundB lb = true) (Q : Exit → Act → World → Prop) (a0 : Act) (hi2 : a0.tmps.getD 2 undef = .pointer (some ⟨b, 0, none⟩)) (hi3 : a0.tmps.getD 3 undef = .pointer (some ⟨b + 1, 0, none⟩)) :
    ObsE Try.prog eq_ops.toArray Q (est2 0 0 (fun _ => False) (fun _ => False)) eq_C (eq_F w0 b Aa Ab ca cb la lb) a0 w0 eq_ops.toArray.toList 0 := by
  have nw2 := eq_nw2
  have nw3 := eq_nw3
  refine ⟨?_, ?_, ?_, ?_, ?_, ?_, ?_, ?_, ?_, ?_, trivial⟩
  · refine ⟨⟨fun τ => stableE_det _, leans_not⟩, ?_⟩
    intro a w O hk
    have e2 : a.eval (.tmp 2) = .pointer (some ⟨b, 0, none⟩) := (hk.init 2 (initialB_of_nw nw2)).trans hi2
    have x2 := hk.world.still hx2 (fun ⟨_, h⟩ => h.elim And.right And.right)
    have x3 := hk.world.still hx3 (fun ⟨_, h⟩ => h.elim And.right And.right)
    have hfx : ∀ k, k < b → w.heap[k]? = w0.heap[k]? := fun k hkb => hk.fix k (est2_fix (by have := blk_lt hx2; omega) (fun h => h) (fun h => h))
    have hsz := hk.world.size
    exact obE_loadRow rfl e2 x2 Try.underlying25 rfl (by kernel_rfl) (wanted_none rfl) rfl
  · refine ⟨⟨fun τ => stableE_nf (fun k hk' => hk'.elim), leans_not⟩, ?_⟩
    intro a w O hk
    have e15 : a.eval (.tmp 15) = lvV Aa ca la := hk.fact 0 _ 15 rfl rfl rfl rfl
    have x2 := hk.world.still hx2 (fun ⟨_, h⟩ => h.elim And.right And.right)
    have x3 := hk.world.still hx3 (fun ⟨_, h⟩ => h.elim And.right And.right)
    have hfx : ∀ k, k < b → w.heap[k]? = w0.heap[k]? := fun k hkb => hk.fix k (est2_fix (by have := blk_lt hx2; omega) (fun h => h) (fun h => h))
    have hsz := hk.world.size
    refine obE_callNew #[lvV Aa ca la, .slice none 0 0] rfl rfl rfl rfl (by simp only [List.map_cons, List.map_nil]; rw [e15]; rfl) (wanted_none rfl) ((of_nil_calls la hsa Aa ca w ((hina.same fun k hk' _ => hfx k hk').mono fun k hk' _ => by have := blk_lt hx2; omega)).mono ?_)
    intro e w' h
    exact NfV.of_got h
  · refine ⟨⟨fun τ => stableE_nf (fun k hk' => hk'.elim), leans_not⟩, ?_⟩
    intro a w O hk
    have f16 := hk.fact 1 _ 16 rfl rfl rfl rfl
    have g16 := hk.owns 1 rfl rfl
    have x2 := hk.world.still hx2 (fun ⟨_, h⟩ => h.elim And.right And.right)
    have x3 := hk.world.still hx3 (fun ⟨_, h⟩ => h.elim And.right And.right)
    have hfx : ∀ k, k < b → w.heap[k]? = w0.heap[k]? := fun k hkb => hk.fix k (est2_fix (by have := blk_lt hx2; omega) (fun h => h) (fun h => h))
    have hsz := hk.world.size
    obtain ⟨A, n, cap, e16, h1, h2⟩ := f16
    refine obE_call #[.agg #[.int .i64 (sumP la).1, .slice A n cap]] rfl rfl rfl rfl (by simp only [List.map_cons, List.map_nil]; rw [show a.eval (.tmp 16) = _ from e16]) (wanted_none rfl) ((short_calls (O 1) A n cap (sumP la).1 (sumP la).2 w (h2.mono fun k hk' _ => hk'.elim False.elim id) h1).mono ?_)
    rintro e w' ⟨A', n', cap', rfl, h1', h2', hB⟩
    exact ⟨_, fun k => k < w'.heap.size ∧ (O 1 k ∨ w.heap.size ≤ k), rfl, ⟨A', n', cap', rfl, h1', h2'.mono fun k hk' hz => .inr ⟨hz, hk'⟩⟩, Chg.of_below hB, fun k h => h.2.elim (fun h' => .inl (.inl ⟨1, by simp [eq_C], h'⟩)) fun h' => .inr ⟨h', h.1⟩⟩
  · refine ⟨⟨fun τ => stableE_det _, leans_not⟩, ?_⟩
    intro a w O hk
    have e3 : a.eval (.tmp 3) = .pointer (some ⟨b + 1, 0, none⟩) := (hk.init 3 (initialB_of_nw nw3)).trans hi3
    have x2 := hk.world.still hx2 (fun ⟨_, h⟩ => h.elim And.right And.right)
    have x3 := hk.world.still hx3 (fun ⟨_, h⟩ => h.elim And.right And.right)
    have hfx : ∀ k, k < b → w.heap[k]? = w0.heap[k]? := fun k hkb => hk.fix k (est2_fix (by have := blk_lt hx2; omega) (fun h => h) (fun h => h))
    have hsz := hk.world.size
    exact obE_loadRow rfl e3 x3 Try.underlying25 rfl (by kernel_rfl) (wanted_none rfl) rfl
  · refine ⟨⟨fun τ => stableE_nf (fun k hk' => hk'.elim), leans_not⟩, ?_⟩
    intro a w O hk
    have e18 : a.eval (.tmp 18) = lvV Ab cb lb := hk.fact 3 _ 18 rfl rfl rfl rfl
    have x2 := hk.world.still hx2 (fun ⟨_, h⟩ => h.elim And.right And.right)
    have x3 := hk.world.still hx3 (fun ⟨_, h⟩ => h.elim And.right And.right)
    have hfx : ∀ k, k < b → w.heap[k]? = w0.heap[k]? := fun k hkb => hk.fix k (est2_fix (by have := blk_lt hx2; omega) (fun h => h) (fun h => h))
    have hsz := hk.world.size
    refine obE_callNew #[lvV Ab cb lb, .slice none 0 0] rfl rfl rfl rfl (by simp only [List.map_cons, List.map_nil]; rw [e18]; rfl) (wanted_none rfl) ((of_nil_calls lb hsb Ab cb w ((hinb.same fun k hk' _ => hfx k hk').mono fun k hk' _ => by have := blk_lt hx2; omega)).mono ?_)
    intro e w' h
    exact NfV.of_got h
  · refine ⟨⟨fun τ => stableE_nf (fun k hk' => hk'.elim), leans_not⟩, ?_⟩
    intro a w O hk
    have f19 := hk.fact 4 _ 19 rfl rfl rfl rfl
    have g19 := hk.owns 4 rfl rfl
    have x2 := hk.world.still hx2 (fun ⟨_, h⟩ => h.elim And.right And.right)
    have x3 := hk.world.still hx3 (fun ⟨_, h⟩ => h.elim And.right And.right)
    have hfx : ∀ k, k < b → w.heap[k]? = w0.heap[k]? := fun k hkb => hk.fix k (est2_fix (by have := blk_lt hx2; omega) (fun h => h) (fun h => h))
    have hsz := hk.world.size
    obtain ⟨A, n, cap, e19, h1, h2⟩ := f19
    refine obE_call #[.agg #[.int .i64 (sumP lb).1, .slice A n cap]] rfl rfl rfl rfl (by simp only [List.map_cons, List.map_nil]; rw [show a.eval (.tmp 19) = _ from e19]) (wanted_none rfl) ((short_calls (O 4) A n cap (sumP lb).1 (sumP lb).2 w (h2.mono fun k hk' _ => hk'.elim False.elim id) h1).mono ?_)
    rintro e w' ⟨A', n', cap', rfl, h1', h2', hB⟩
    exact ⟨_, fun k => k < w'.heap.size ∧ (O 4 k ∨ w.heap.size ≤ k), rfl, ⟨A', n', cap', rfl, h1', h2'.mono fun k hk' hz => .inr ⟨hz, hk'⟩⟩, Chg.of_below hB, fun k h => h.2.elim (fun h' => .inl (.inl ⟨4, by simp [eq_C], h'⟩)) fun h' => .inr ⟨h', h.1⟩⟩
  · refine ⟨⟨fun τ => stableE_ex fun p => stableE_and stableE_pure (stableE_block _ _), leans_not⟩, ?_⟩
    intro a w O hk
    have x2 := hk.world.still hx2 (fun ⟨_, h⟩ => h.elim And.right And.right)
    have x3 := hk.world.still hx3 (fun ⟨_, h⟩ => h.elim And.right And.right)
    have hfx : ∀ k, k < b → w.heap[k]? = w0.heap[k]? := fun k hkb => hk.fix k (est2_fix (by have := blk_lt hx2; omega) (fun h => h) (fun h => h))
    have hsz := hk.world.size
    exact obE_res (w' := w.alloc (.cells #[.int .i64 0, .slice none 0 0] 102 (0, 0))) (fun k => k = w.heap.size) (wanted_none rfl) (by unfold execOp; simp only []; go_simp) (Chg.of_below ((Below.refl _ _).alloc (Nat.le_refl _) _)) ⟨_, rfl, blk_new _ _, rfl⟩ (fun k hk => .inr ⟨by omega, by simp; omega⟩)
  · refine ⟨⟨fun τ => stableE_ex fun p => stableE_and stableE_pure (stableE_block _ _), leans_not⟩, ?_⟩
    intro a w O hk
    have x2 := hk.world.still hx2 (fun ⟨_, h⟩ => h.elim And.right And.right)
    have x3 := hk.world.still hx3 (fun ⟨_, h⟩ => h.elim And.right And.right)
    have hfx : ∀ k, k < b → w.heap[k]? = w0.heap[k]? := fun k hkb => hk.fix k (est2_fix (by have := blk_lt hx2; omega) (fun h => h) (fun h => h))
    have hsz := hk.world.size
    exact obE_res (w' := w.alloc (.cells #[.int .i64 0, .slice none 0 0] 102 (0, 0))) (fun k => k = w.heap.size) (wanted_none rfl) (by unfold execOp; simp only []; go_simp) (Chg.of_below ((Below.refl _ _).alloc (Nat.le_refl _) _)) ⟨_, rfl, blk_new _ _, rfl⟩ (fun k hk => .inr ⟨by omega, by simp; omega⟩)
  · refine ⟨⟨fun τ => stableE_ex fun p v w w' O h hz hk => ⟨h.1, stableE_nfbox (fun k hk' => hk'.elim) v w w' O h.2 hz hk⟩, fun τ τ' h => by have e : τ' 5 = τ 5 := h 6 _ 5 rfl rfl rfl; show (fun v w O => ∃ p, τ 5 = _ ∧ NfBox p _ _ w O) = (fun v w O => ∃ p, τ' 5 = _ ∧ NfBox p _ _ w O); rw [e]⟩, ?_⟩
    intro a w O hk
    have f5 := hk.fact 6 _ 5 rfl rfl rfl rfl
    have g5 := hk.owns 6 rfl rfl
    have f17 := hk.fact 2 _ 17 rfl rfl rfl rfl
    have g17 := hk.owns 2 rfl rfl
    have x2 := hk.world.still hx2 (fun ⟨_, h⟩ => h.elim And.right And.right)
    have x3 := hk.world.still hx3 (fun ⟨_, h⟩ => h.elim And.right And.right)
    have hfx : ∀ k, k < b → w.heap[k]? = w0.heap[k]? := fun k hkb => hk.fix k (est2_fix (by have := blk_lt hx2; omega) (fun h => h) (fun h => h))
    have hsz := hk.world.size
    obtain ⟨p, e5, x4, hOp⟩ := f5
    obtain ⟨A, n, cap, e17, h1, h2⟩ := f17
    obtain ⟨z0, z1, y0, y1⟩ := row2 x4
    have hap : ¬ O 2 p := hk.apart 6 2 rfl rfl rfl rfl (by decide) p hOp
    refine obE_store (w' := (w.setCell ⟨p, 0, none⟩ (.int .i64 (shortN (sumP la)).1)).setCell ⟨p, 1, none⟩ (.slice A n cap)) (fun k => k = p ∨ O 2 k) (wanted_none rfl) (by unfold execOp; simp only []; rw [show a.eval (.tmp 5) = _ from e5, show a.eval (.tmp 17) = _ from e17]; go_simp) ((chg_set2 w p _ _).mono fun k h => .inl ⟨6, by simp [eq_C], by have h : k = p := h; rw [h]; exact hOp⟩) ?_ (fun k h => .inl (.inl ?_))
    · exact ⟨p, e5, A, n, cap, set2 x4, .inl rfl, h1, (h2.same fun k hk' hz => (chg_set2 w p _ _).block k hz (fun h => hk'.elim id fun h' => hap (h ▸ h'))).mono fun k hk' _ => .inr (hk'.elim False.elim fun h' => ⟨.inr h', fun h => hap (h ▸ h')⟩)⟩
    · exact h.elim (fun h => ⟨6, by simp [eq_C], h ▸ hOp⟩) fun h => ⟨2, by simp [eq_C], h⟩
  · refine ⟨⟨fun τ => stableE_ex fun p v w w' O h hz hk => ⟨h.1, stableE_nfbox (fun k hk' => hk'.elim) v w w' O h.2 hz hk⟩, fun τ τ' h => by have e : τ' 6 = τ 6 := h 7 _ 6 rfl rfl rfl; show (fun v w O => ∃ p, τ 6 = _ ∧ NfBox p _ _ w O) = (fun v w O => ∃ p, τ' 6 = _ ∧ NfBox p _ _ w O); rw [e]⟩, ?_⟩
    intro a w O hk
    have f6 := hk.fact 7 _ 6 rfl rfl rfl rfl
    have g6 := hk.owns 7 rfl rfl
    have f20 := hk.fact 5 _ 20 rfl rfl rfl rfl
    have g20 := hk.owns 5 rfl rfl
    have x2 := hk.world.still hx2 (fun ⟨_, h⟩ => h.elim And.right And.right)
    have x3 := hk.world.still hx3 (fun ⟨_, h⟩ => h.elim And.right And.right)
    have hfx : ∀ k, k < b → w.heap[k]? = w0.heap[k]? := fun k hkb => hk.fix k (est2_fix (by have := blk_lt hx2; omega) (fun h => h) (fun h => h))
    have hsz := hk.world.size
    obtain ⟨p, e6, x4, hOp⟩ := f6
    obtain ⟨A, n, cap, e20, h1, h2⟩ := f20
    obtain ⟨z0, z1, y0, y1⟩ := row2 x4
    have hap : ¬ O 5 p := hk.apart 7 5 rfl rfl rfl rfl (by decide) p hOp
    refine obE_store (w' := (w.setCell ⟨p, 0, none⟩ (.int .i64 (shortN (sumP lb)).1)).setCell ⟨p, 1, none⟩ (.slice A n cap)) (fun k => k = p ∨ O 5 k) (wanted_none rfl) (by unfold execOp; simp only []; rw [show a.eval (.tmp 6) = _ from e6, show a.eval (.tmp 20) = _ from e20]; go_simp) ((chg_set2 w p _ _).mono fun k h => .inl ⟨7, by simp [eq_C], by have h : k = p := h; rw [h]; exact hOp⟩) ?_ (fun k h => .inl (.inl ?_))
    · exact ⟨p, e6, A, n, cap, set2 x4, .inl rfl, h1, (h2.same fun k hk' hz => (chg_set2 w p _ _).block k hz (fun h => hk'.elim id fun h' => hap (h ▸ h'))).mono fun k hk' _ => .inr (hk'.elim False.elim fun h' => ⟨.inr h', fun h => hap (h ▸ h')⟩)⟩
    · exact h.elim (fun h => ⟨7, by simp [eq_C], h ▸ hOp⟩) fun h => ⟨5, by simp [eq_C], h⟩
set_option maxRecDepth 100000 in
set_option maxHeartbeats 8000000 in
theorem eq_region {Q : Exit → Act → World → Prop} {id : Nat} (w0 : World) (b : Nat) (Aa Ab : Option Addr) (ca cb : Nat) (la lb : Lv) {s0 s1 s4 s5 s6 s7 s8 s9 s10 s11 s12 s13 s14 s15 s16 s17 s18 s19 s20 s21 s22 s23 s24 s25 s26 s27 s28 s29 s30 s31 s32 : Value} (hx2 : w0.heap[b]? = some (.cells #[.int .i64 la.kind, .int .i64 la.num, .slice Aa la.kids.length ca] 25 (0, 0))) (hx3 : w0.heap[b + 1]? = some (.cells #[.int .i64 lb.kind, .int .i64 lb.num, .slice Ab lb.kids.length cb] 25 (0, 0))) (hina : LvIn w0 b Aa ca la) (hinb : LvIn w0 b Ab cb lb) (hsa : soundB la = true) (hsb : soundB lb = true)
    (hend : ∀ (w' : World) (u5 : Value) (u6 : Value) (u16 : Value) (u17 : Value) (u19 : Value) (u20 : Value) (v8 : Value) (O8 : Nat → Prop) (v9 : Value) (O9 : Nat → Prop), Chg (fun k => False ∨ False) w0 w' → (∃ p, u5 = .pointer (some ⟨p, 0, none⟩) ∧ NfBox p (fun _ => False) (shortN (sumP la)) w' O8) → (∀ k, O8 k → k < w'.heap.size ∧ ¬ Fix w0 (est2 0 0 (fun _ => False) (fun _ => False)) k) → (∃ p, u6 = .pointer (some ⟨p, 0, none⟩) ∧ NfBox p (fun _ => False) (shortN (sumP lb)) w' O9) → (∀ k, O9 k → k < w'.heap.size ∧ ¬ Fix w0 (est2 0 0 (fun _ => False) (fun _ => False)) k) → Q .normal { tmps := (s0 :: s1 :: (.pointer (some ⟨b, 0, none⟩) : Value) :: (.pointer (some ⟨b + 1, 0, none⟩) : Value) :: s4 :: u5 :: u6 :: s7 :: s8 :: s9 :: s10 :: s11 :: s12 :: s13 :: s14 :: (lvV Aa ca la : Value) :: u16 :: u17 :: (lvV Ab cb lb : Value) :: u19 :: u20 :: s21 :: s22 :: s23 :: s24 :: s25 :: s26 :: s27 :: s28 :: s29 :: s30 :: s31 :: s32 :: ([] : List Value)).toArray, defers := [] } w') :
    (Code.region id eq_ops.toArray true).wp Try.prog Q { tmps := (s0 :: s1 :: (.pointer (some ⟨b, 0, none⟩) : Value) :: (.pointer (some ⟨b + 1, 0, none⟩) : Value) :: s4 :: s5 :: s6 :: s7 :: s8 :: s9 :: s10 :: s11 :: s12 :: s13 :: s14 :: s15 :: s16 :: s17 :: s18 :: s19 :: s20 :: s21 :: s22 :: s23 :: s24 :: s25 :: s26 :: s27 :: s28 :: s29 :: s30 :: s31 :: s32 :: ([] : List Value)).toArray, defers := [] } w0 := by
  refine wp_region_est (by kernel_rfl) (est2 0 0 (fun _ => False) (fun _ => False)) eq_C (eq_F w0 b Aa Ab ca cb la lb) (est2_dis (fun _ h _ => h)) (est2_range (fun _ h => h.elim) (fun _ h => h.elim)) (by rfl) (by kernel_rfl) (eq_obs w0.drew b Aa Ab ca cb la lb hx2 hx3 (LvS.later hina (below_drew (Below.refl _ _))) (LvS.later hinb (below_drew (Below.refl _ _))) hsa hsb _ _ rfl rfl) ?_
  intro a w' O hd hs hb hf hf2 ha hsame
  have hx : ∀ (qi : Nat) (qv : Value), nwB eq_ops.toArray qi = true → (s0 :: s1 :: (.pointer (some ⟨b, 0, none⟩) : Value) :: (.pointer (some ⟨b + 1, 0, none⟩) : Value) :: s4 :: s5 :: s6 :: s7 :: s8 :: s9 :: s10 :: s11 :: s12 :: s13 :: s14 :: s15 :: s16 :: s17 :: s18 :: s19 :: s20 :: s21 :: s22 :: s23 :: s24 :: s25 :: s26 :: s27 :: s28 :: s29 :: s30 :: s31 :: s32 :: ([] : List Value)).toArray.getD qi undef = qv → a.tmps.getD qi undef = qv := fun qi qv h e => (hsame qi (nwB.spec h)).trans e
  have x0 := hx 0 s0 (by kernel_rfl) rfl
  have x1 := hx 1 s1 (by kernel_rfl) rfl
  have x2 := hx 2 (.pointer (some ⟨b, 0, none⟩)) (by kernel_rfl) rfl
  have x3 := hx 3 (.pointer (some ⟨b + 1, 0, none⟩)) (by kernel_rfl) rfl
  have x4 := hx 4 s4 (by kernel_rfl) rfl
  have x7 := hx 7 s7 (by kernel_rfl) rfl
  have x8 := hx 8 s8 (by kernel_rfl) rfl
  have x9 := hx 9 s9 (by kernel_rfl) rfl
  have x10 := hx 10 s10 (by kernel_rfl) rfl
  have x11 := hx 11 s11 (by kernel_rfl) rfl
  have x12 := hx 12 s12 (by kernel_rfl) rfl
  have x13 := hx 13 s13 (by kernel_rfl) rfl
  have x14 := hx 14 s14 (by kernel_rfl) rfl
  have x15 : a.tmps.getD 15 undef = lvV Aa ca la := (hf 0 _ 15 rfl rfl (by decide)).1
  have x18 : a.tmps.getD 18 undef = lvV Ab cb lb := (hf 3 _ 18 rfl rfl (by decide)).1
  have x21 := hx 21 s21 (by kernel_rfl) rfl
  have x22 := hx 22 s22 (by kernel_rfl) rfl
  have x23 := hx 23 s23 (by kernel_rfl) rfl
  have x24 := hx 24 s24 (by kernel_rfl) rfl
  have x25 := hx 25 s25 (by kernel_rfl) rfl
  have x26 := hx 26 s26 (by kernel_rfl) rfl
  have x27 := hx 27 s27 (by kernel_rfl) rfl
  have x28 := hx 28 s28 (by kernel_rfl) rfl
  have x29 := hx 29 s29 (by kernel_rfl) rfl
  have x30 := hx 30 s30 (by kernel_rfl) rfl
  have x31 := hx 31 s31 (by kernel_rfl) rfl
  have x32 := hx 32 s32 (by kernel_rfl) rfl
  have hl : a.tmps = (s0 :: s1 :: (.pointer (some ⟨b, 0, none⟩) : Value) :: (.pointer (some ⟨b + 1, 0, none⟩) : Value) :: s4 :: (a.tmps.getD 5 undef : Value) :: (a.tmps.getD 6 undef : Value) :: s7 :: s8 :: s9 :: s10 :: s11 :: s12 :: s13 :: s14 :: (lvV Aa ca la : Value) :: (a.tmps.getD 16 undef : Value) :: (a.tmps.getD 17 undef : Value) :: (lvV Ab cb lb : Value) :: (a.tmps.getD 19 undef : Value) :: (a.tmps.getD 20 undef : Value) :: s21 :: s22 :: s23 :: s24 :: s25 :: s26 :: s27 :: s28 :: s29 :: s30 :: s31 :: s32 :: ([] : List Value)).toArray := by
    have h := lit a.tmps 33 hs
    have e : ((List.range 33).map (fun i => a.tmps.getD i undef)).toArray = ((a.tmps.getD 0 undef : Value) :: (a.tmps.getD 1 undef : Value) :: (a.tmps.getD 2 undef : Value) :: (a.tmps.getD 3 undef : Value) :: (a.tmps.getD 4 undef : Value) :: (a.tmps.getD 5 undef : Value) :: (a.tmps.getD 6 undef : Value) :: (a.tmps.getD 7 undef : Value) :: (a.tmps.getD 8 undef : Value) :: (a.tmps.getD 9 undef : Value) :: (a.tmps.getD 10 undef : Value) :: (a.tmps.getD 11 undef : Value) :: (a.tmps.getD 12 undef : Value) :: (a.tmps.getD 13 undef : Value) :: (a.tmps.getD 14 undef : Value) :: (a.tmps.getD 15 undef : Value) :: (a.tmps.getD 16 undef : Value) :: (a.tmps.getD 17 undef : Value) :: (a.tmps.getD 18 undef : Value) :: (a.tmps.getD 19 undef : Value) :: (a.tmps.getD 20 undef : Value) :: (a.tmps.getD 21 undef : Value) :: (a.tmps.getD 22 undef : Value) :: (a.tmps.getD 23 undef : Value) :: (a.tmps.getD 24 undef : Value) :: (a.tmps.getD 25 undef : Value) :: (a.tmps.getD 26 undef : Value) :: (a.tmps.getD 27 undef : Value) :: (a.tmps.getD 28 undef : Value) :: (a.tmps.getD 29 undef : Value) :: (a.tmps.getD 30 undef : Value) :: (a.tmps.getD 31 undef : Value) :: (a.tmps.getD 32 undef : Value) :: ([] : List Value)).toArray := rfl
    rw [e, x0, x1, x2, x3, x4, x7, x8, x9, x10, x11, x12, x13, x14, x15, x18, x21, x22, x23, x24, x25, x26, x27, x28, x29, x30, x31, x32] at h
    exact h
  obtain ⟨tmps, defers⟩ := a
  obtain rfl : defers = [] := hd
  have hl' : tmps = _ := hl
  rw [hl']
  obtain ⟨⟨v8, hv8⟩, ho8⟩ := hf2 8 _ rfl rfl (by decide)
  obtain ⟨⟨v9, hv9⟩, ho9⟩ := hf2 9 _ rfl rfl (by decide)
  have hb' := est2_chg hb
  exact hend w' _ _ _ _ _ _ v8 (O 8) v9 (O 9) ⟨hb'.os, hb'.tape, hb'.output, hb'.size, hb'.block⟩ hv8 ho8 hv9 ho9

end Go.Proofs.Ytdboloabpjmgaaa

/-! Eq -/
namespace Go.Proofs.Ytdboloabpjmgaaa
open Go.RowKit Go.Proofs.YtdboloabpjmgaaaW.PrintWords Go.RegionInvYtdboloabpjmgaaa Go.RegionEYtdboloabpjmgaaa

theorem take_next {xs ys : List Int} {j : Nat} (hl : xs.length = ys.length) (hj : j < xs.length) (he : xs.take j = ys.take j) (hr : rd xs j = rd ys j) : xs.take (j + 1) = ys.take (j + 1) := by
  rw [List.take_add_one, List.take_add_one, he]
  congr 1
  simp only [rd_nat', List.getD_eq_getElem?_getD, List.getElem?_eq_getElem hj, List.getElem?_eq_getElem (show j < ys.length by omega), Option.getD_some] at hr
  simp only [List.getElem?_eq_getElem hj, List.getElem?_eq_getElem (show j < ys.length by omega), hr]
theorem take_not {xs ys : List Int} {j : Nat} (hr : rd xs j ≠ rd ys j) : xs ≠ ys := fun e => hr (by rw [e])
set_option maxHeartbeats 4000000 in
theorem sEqual_calls (A B : Option Addr) (n m cap cap' : Nat) (xs ys : List Int) (w : World) (hx : ReadsInt w .i64 A n xs) (hy : ReadsInt w .i64 B m ys) :
    Calls Try.prog 121 #[.slice A n cap, .slice B m cap'] w fun e w' => e = .returned (.bool (decide (xs = ys))) ∧ Below w.heap.size w w' := by
  have HX := Aside0.mk hx
  have HY := Aside0.mk hy
  have hn9 := hx.2.1
  have hm9 := hy.2.1
  have HN := Aside0.mk hx.1
  have HM := Aside0.mk hy.1
  clear hx hy
  go_enter Try.func121, Try.ntmps121
  by_cases hnm : n = m
  · subst hnm
    have hb : ((n : Int) != (n : Int)) = false := by simp
    go_wp2
    go_loopw [13] (fun i wr => ∃ (j : Nat), i = .int .i64 j ∧ j ≤ n ∧ Aside0 (xs.take j = ys.take j) ∧ Aside0 (Below w.heap.size w wr)) (fun i _ => n - (intOf i).toNat)
    case atStart => exact ⟨0, rfl, Nat.zero_le _, ⟨rfl⟩, ⟨Below.refl _ _⟩⟩
    case round =>
      obtain ⟨j, rfl, hj, HE, HB⟩ := hrel
      by_cases hlt : j < n
      · obtain ⟨ad, rfl, hcx⟩ := (HX.out.below HB.out).at_ j (by omega) (by omega)
        obtain ⟨ad', rfl, hcy⟩ := (HY.out.below HB.out).at_ j (by omega) (by omega)
        rw [Int.toNat_natCast] at hcx hcy
        obtain ⟨x, hxv⟩ : ∃ x, x = rd xs j := ⟨_, rfl⟩
        obtain ⟨y, hyv⟩ : ∃ y, y = rd ys j := ⟨_, rfl⟩
        rw [← hxv] at hcx
        rw [← hyv] at hcy
        have HXV := Aside0.mk hxv
        have HYV := Aside0.mk hyv
        clear hxv hyv
        by_cases hxy : x = y
        · have hbb : (x != y) = false := by simp [hxy]
          have HE' := Aside0.mk (take_next (by rw [HN.out, HM.out]) (by rw [HN.out]; exact hlt) HE.out (by rw [← HXV.out, ← HYV.out, hxy]))
          clear hxy
          go_upto_region 6 with (fail)
          go_region_law (fail)
          all_goals go_wp2
          all_goals exact ⟨⟨j + 1, by go_num, by omega, HE', ⟨below_drew HB.out⟩⟩, by simp [intOf]; omega⟩
        · have hbb : (x != y) = true := by simp [hxy]
          have HF := Aside0.mk (show decide (xs = ys) = false from decide_eq_false (take_not (j := j) (by rw [← HXV.out, ← HYV.out]; exact hxy)))
          clear hxy
          go_upto_region 6 with (fail)
          go_region_law (fail)
          all_goals go_wp2
          all_goals go_ret
          all_goals exact ⟨by rw [HF.out]; rfl, by repeat' first | exact HB.out | apply below_drew⟩
      · obtain rfl : j = n := by omega
        have hlt' : decide ((j : Int) < j) = false := by simp
        have HF := Aside0.mk (show decide (xs = ys) = true from decide_eq_true (by have := HE.out; rwa [List.take_of_length_le (by rw [HN.out]; exact Nat.le_refl _), List.take_of_length_le (by rw [HM.out]; exact Nat.le_refl _)] at this))
        go_wp2
        go_ret
        exact ⟨by rw [HF.out]; rfl, HB.out⟩
  · have hb : ((n : Int) != (m : Int)) = true := by simp; omega
    have HF := Aside0.mk (show decide (xs = ys) = false from decide_eq_false fun e => hnm (by rw [← HN.out, ← HM.out, e]))
    go_wp2
    go_ret
    exact ⟨by rw [HF.out]; rfl, Below.refl _ _⟩
/-- Equal's answer. -/
def eqP (a b : Lv) : Bool := soundB a && soundB b && decide (shortN (sumP a) = shortN (sumP b))
theorem eqP_1 {a b : Lv} (h : soundB a = false) : eqP a b = false := by unfold eqP; rw [h]; rfl
theorem eqP_2 {a b : Lv} (h : soundB b = false) : eqP a b = false := by unfold eqP; rw [h]; cases soundB a <;> rfl
theorem eqP_3 {a b : Lv} (ha : soundB a = true) (hb : soundB b = true) : eqP a b = decide (shortN (sumP a) = shortN (sumP b)) := by unfold eqP; rw [ha, hb]; rfl
theorem pair_dec {f h : Nf} : decide (f = h) = (f.1 == h.1 && decide (f.2 = h.2)) := by
  cases f; cases h
  simp [Prod.mk.injEq, Bool.decide_and]
  rfl
abbrev bx2 (w : World) (A B : Option Addr) (c c' : Nat) (a b : Lv) : World := (w.alloc (.cells #[.int .i64 a.kind, .int .i64 a.num, .slice A a.kids.length c] 25 (0, 0))).alloc (.cells #[.int .i64 b.kind, .int .i64 b.num, .slice B b.kids.length c'] 25 (0, 0))
set_option maxHeartbeats 4000000 in
theorem equal_calls (A B : Option Addr) (c c' : Nat) (a b : Lv) (w : World) (ha : LvIn w w.heap.size A c a) (hb : LvIn w w.heap.size B c' b) :
    Calls Try.prog 106 #[lvV A c a, lvV B c' b] w fun e w' => e = .returned (.bool (eqP a b)) ∧ Below w.heap.size w w' := by
  have HA := Aside0.mk ha
  have HB := Aside0.mk hb
  have hla : a.kids.length ≤ 9223372036854775807 := by have := ha.len; omega
  have hlb : b.kids.length ≤ 9223372036854775807 := by have := hb.len; omega
  have HW := Aside0.mk (show Below w.heap.size w (bx2 w A B c c' a b) from below_alloc (below_alloc (Below.refl _ _) _) _)
  have HX := Aside0.mk (show (bx2 w A B c c' a b).heap[w.heap.size]? = some (.cells #[.int .i64 a.kind, .int .i64 a.num, .slice A a.kids.length c] 25 (0, 0)) from box0 w _ _)
  have HY := Aside0.mk (show (bx2 w A B c c' a b).heap[w.heap.size + 1]? = some (.cells #[.int .i64 b.kind, .int .i64 b.num, .slice B b.kids.length c'] 25 (0, 0)) from box1 w _ _)
  clear ha hb
  cases hsa : soundB a with
  | false =>
    have HE := Aside0.mk (eqP_1 (b := b) hsa)
    have HS := Aside0.mk hsa
    clear hsa
    unfold lvV
    go_enter Try.func106, Try.ntmps106
    go_wp2_with (first
      | (go_at_call 109; go_must (refine (sound_calls A c a _ (LvS.all (HA.out.stay HW.out))).mono ?_; rintro e w1 ⟨rfl, hb⟩; rw [HS.out]; have HB1 := Aside0.mk (below_then HW.out HW.out.size hb); clear hb)))
    go_ret
    exact ⟨by rw [HE.out]; rfl, HB1.out⟩
  | true =>
    have HSA := Aside0.mk hsa
    cases hsb : soundB b with
    | false =>
      have HE := Aside0.mk (eqP_2 (a := a) hsb)
      have HSB := Aside0.mk hsb
      clear hsa hsb
      unfold lvV
      go_enter Try.func106, Try.ntmps106
      go_wp2_with (first
        | (have hg := HB1; clear hg; go_at_call 109; go_must (refine (sound_calls B c' b w1 (LvS.all (HB.out.stay HB1.out))).mono ?_; rintro e w2 ⟨rfl, hb⟩; rw [HSB.out]; have HB2 := Aside0.mk (below_then HB1.out HB1.out.size hb); clear hb))
        | (go_at_call 109; go_must (refine (sound_calls A c a (bx2 w A B c c' a b) (LvS.all (HA.out.stay HW.out))).mono ?_; rintro e w1 ⟨rfl, hb⟩; rw [HSA.out]; have HB1 := Aside0.mk (below_then HW.out HW.out.size hb); obtain ⟨p0, p1, p2, -, -, -⟩ := row3 (blk_below HY.out hb); clear hb)))
      go_ret
      exact ⟨by rw [HE.out]; rfl, HB2.out⟩
    | true =>
      have HE := Aside0.mk ((eqP_3 hsa hsb).trans pair_dec)
      have HSB := Aside0.mk hsb
      clear hsa hsb
      unfold lvV
      go_enter Try.func106, Try.ntmps106
      go_upto_region 3 with (first
        | (have hg := HB1; clear hg; go_at_call 109; go_must (refine (sound_calls B c' b w1 (LvS.all (HB.out.stay HB1.out))).mono ?_; rintro e w2 ⟨rfl, hb⟩; rw [HSB.out]; have HB2 := Aside0.mk (below_then HB1.out HB1.out.size hb); have HX2 := Aside0.mk (blk_below HX1.out hb); have HY2 := Aside0.mk (blk_below HY1.out hb); clear hb))
        | (go_at_call 109; go_must (refine (sound_calls A c a (bx2 w A B c c' a b) (LvS.all (HA.out.stay HW.out))).mono ?_; rintro e w1 ⟨rfl, hb⟩; rw [HSA.out]; have HB1 := Aside0.mk (below_then HW.out HW.out.size hb); have HX1 := Aside0.mk (blk_below HX.out hb); have HY1 := Aside0.mk (blk_below HY.out hb); obtain ⟨p0, p1, p2, -, -, -⟩ := row3 (blk_below HY.out hb); clear hb)))
      refine eq_region w2 w.heap.size A B c c' a b HX2.out HY2.out (HA.out.stay HB2.out) (HB.out.stay HB2.out) HSA.out HSB.out ?_
      rintro w' u5 u6 u16 u17 u19 u20 v8 O8 v9 O9 hch ⟨p, rfl, hf⟩ - ⟨q, rfl, hg⟩ -
      have hb' : Below w2.heap.size w2 w' := hch.below (fun _ h => h.elim False.elim False.elim) (Nat.le_refl _)
      have HB' := Aside0.mk (below_then HB2.out HB2.out.size hb')
      obtain ⟨A1, n1, c1, hx1, -, hc1, hi1⟩ := hf
      obtain ⟨A2, n2, c2, hx2, -, hc2, hi2⟩ := hg
      obtain ⟨d0, d1, -, -⟩ := row2 hx1
      obtain ⟨e0, e1, -, -⟩ := row2 hx2
      obtain ⟨f, hf⟩ : ∃ f, f = shortN (sumP a) := ⟨_, rfl⟩
      obtain ⟨h, hh⟩ : ∃ h, h = shortN (sumP b) := ⟨_, rfl⟩
      rw [← hf] at d0 hi1 HE
      rw [← hh] at e0 hi2 HE
      have HI1 := Aside0.mk hi1.1
      have HI2 := Aside0.mk hi2.1
      clear hch hx1 hx2 hc1 hc2 hi1 hi2 hf hh hb'
      by_cases hff : f.1 = h.1
      · have hb1 : (f.1 == h.1) = true := by simp [hff]
        have HE := Aside0.mk (HE.out.trans (by rw [hb1, Bool.true_and]))
        clear hff
        go_wp2_with (go_at_call 121; go_must (refine (sEqual_calls A1 A2 n1 n2 c1 c2 f.2 h.2 w' HI1.out HI2.out).mono ?_; rintro e w3 ⟨rfl, hb⟩; rw [← HE.out]; have HB3 := Aside0.mk (below_then HB'.out HB'.out.size hb); clear hb))
        go_ret
        exact ⟨rfl, HB3.out⟩
      · have hb1 : (f.1 == h.1) = false := by simp [hff]
        have HE := Aside0.mk (HE.out.trans (by rw [hb1, Bool.false_and]))
        clear hff
        go_wp2
        go_ret
        exact ⟨by rw [HE.out]; rfl, HB'.out⟩
end Go.Proofs.Ytdboloabpjmgaaa

/-! SamP -/
namespace Go.Proofs.Ytdboloabpjmgaaa
open Go.RowKit Go.Proofs.YtdboloabpjmgaaaW.PrintWords Go.RegionInvYtdboloabpjmgaaa

def lvsEq : List Lv → List Lv → Bool
  | [], [] => true
  | x :: r, y :: s => eqP x y && lvsEq r s
  | _, _ => false
/-- Kind, kids that count, and what the kind gives a meaning to. -/
def hdB (a b : Tm) : Bool := decide (a.kind = b.kind) && (leafR a == leafR b) && (leafR a || (if a.kind = 1 then decide (a.num = b.num) else if a.kind = 2 then eqP a.lv b.lv else if a.kind = 7 then (a.name.toList == b.name.toList) && lvsEq a.ls b.ls else true))
def sameT (a b : Tm) : Bool := hdB a b && (List.finRange (nK a)).all fun i => sameT (kidF a i) (b.kids.getD i.1 default)
termination_by SizeOf.sizeOf a
decreasing_by exact kidF_lt a i
def SameT (a b : Tm) : Bool := decide (okT a) && decide (okT b) && sameT a b
theorem same_eq (a b : Tm) : sameT a b = (hdB a b && (List.finRange (nK a)).all fun i => sameT (kidF a i) (b.kids.getD i.1 default)) := by rw [sameT]
theorem same_leaf {a b : Tm} (h : leafT a = true) : sameT a b = hdB a b := by
  rw [same_eq, fin_none (leaf_nK h)]
  simp
theorem eqP_own {l : Lv} (h : soundB l = true) (h2 : soundB (owP l) = true) : eqP (owP l) l = true := by rw [eqP_3 h2 h, own_sum h]; exact decide_eq_true rfl
theorem lvsEq_own : ∀ {ls : List Lv}, (∀ l ∈ ls, soundB l = true) → (∀ l ∈ ls, soundB (owP l) = true) → lvsEq (ls.map owP) ls = true
  | [], _, _ => rfl
  | x :: r, h, k => by
    show (eqP (owP x) x && lvsEq (r.map owP) r) = true
    rw [eqP_own (h x (List.mem_cons_self ..)) (k x (List.mem_cons_self ..)), lvsEq_own (fun l hl => h l (List.mem_cons_of_mem _ hl)) fun l hl => k l (List.mem_cons_of_mem _ hl)]
    rfl
structure LfOk (x : Tm) : Prop where
  lv : x.kind = 2 → soundB x.lv = true
  ls : x.kind = 7 → ∀ l ∈ x.ls, soundB l = true
theorem leafR_node {t : Tm} (h : leafT t = false) : leafR t = false := by
  cases hr : leafR t with
  | false => rfl
  | true => exact absurd (nK_leaf hr) (leaf_nK' h)
theorem kind_node {t : Tm} (h : leafT t = false) : t.kind ≠ 1 ∧ t.kind ≠ 2 ∧ t.kind ≠ 7 := by
  have := nK_ar (leaf_nK' h)
  have h0 := leaf_nK' h
  refine ⟨fun e => ?_, fun e => ?_, fun e => ?_⟩ <;> (rw [e] at this; have e2 : (nK t : Int) = 0 := this; omega)
theorem hd_node {a b : Tm} (ha : leafT a = false) (hb : leafT b = false) (hk : a.kind = b.kind) : hdB a b = true := by
  unfold hdB
  obtain ⟨k1, k2, k7⟩ := kind_node ha
  rw [leafR_node ha, leafR_node hb, if_neg k1, if_neg k2, if_neg k7, decide_eq_true hk]
  rfl
theorem node_leafR {x : Tm} (hl : leafT x = true) : leafR (nodeP x) = leafR x := by
  have h0 := leaf_nK hl
  unfold leafR
  have e : (nodeP x).kids.length = 0 := rfl
  have ek : (nodeP x).kind = x.kind := rfl
  rw [e, ek]
  unfold nK at h0
  have := arZ_in x.kind
  congr 1
  simp only [eq_iff_iff]
  split at h0
  · omega
  · omega
theorem hd_node_own {x : Tm} (hl : leafT x = true) (h : LfOk x) : hdB (nodeP x) x = true := by
  unfold hdB
  rw [node_leafR hl, show (nodeP x).kind = x.kind from rfl, decide_eq_true rfl]
  cases leafR x with
  | true => rfl
  | false =>
    by_cases k1 : x.kind = 1
    · rw [if_pos k1]; unfold nodeP; simp [k1, Tm.num]
    · by_cases k2 : x.kind = 2
      · rw [if_neg k1, if_pos k2]
        have e : (nodeP x).lv = owP x.lv := by unfold nodeP; simp [k2, Tm.lv]
        rw [e, eqP_own (h.lv k2) (own_sound (h.lv k2))]; rfl
      · by_cases k7 : x.kind = 7
        · rw [if_neg k1, if_neg k2, if_pos k7]
          have e : (nodeP x).ls = x.ls.map owP := by unfold nodeP; simp [k7, Tm.ls]
          have e2 : (nodeP x).name = x.name := by unfold nodeP; simp [k7, Tm.name]
          rw [e, e2, lvsEq_own (h.ls k7) (fun l hl => own_sound (h.ls k7 l hl))]; simp
        · rw [if_neg k1, if_neg k2, if_neg k7]; rfl
theorem nK_nodeP (x : Tm) : nK (nodeP x) = 0 := nK_none rfl
theorem leafT_of {x : Tm} (h : nK x = 0) : leafT x = true := decide_eq_true h
/-- A rebuilt term is the same, if its leaves are. -/
theorem same_reb {F : Tm → Int → Tm} {t : Tm} {b : Int} (h : AllL (fun x e => sameT (F x e) x = true) t b) : sameT (rebP F t b) t = true := by
  induction h with
  | leaf hl hp => rw [reb_leaf hl]; exact hp
  | @node t b hl _ ih =>
    rw [reb_over hl, same_eq, hd_node (over_leaf hl) hl rfl, Bool.true_and, List.all_eq_true]
    intro i _
    have h2 : i.1 < nK t := Nat.lt_of_lt_of_le i.2 (Nat.le_of_eq (over_nK hl))
    rw [show i = ⟨i.1, i.2⟩ from rfl, over_kid i.1 i.2 h2, List.getD_eq_getElem?_getD, kidF_get t ⟨i.1, h2⟩]
    exact ih ⟨i.1, h2⟩
abbrev canT (t : Tm) (b : Int) : Tm := rebP (fun t _ => nodeP t) t b
theorem same_can {t : Tm} {b : Int} (h : AllL (fun x _ => LfOk x) t b) : sameT (canT t b) t = true :=
  same_reb (h.mono fun x e hl hx => by rw [same_leaf (leafT_of (nK_nodeP x))]; exact hd_node_own hl hx)
theorem arity_p (l : Lv) {a b c d : Int} (hab : a ≤ b) (h : rightP l a c = true) (hk : l.kind = 2 → rightP l b d = true) : rightP l b d = true := by
  by_cases k2 : l.kind = 2
  · exact hk k2
  · obtain ⟨k, n, ks⟩ := l
    have k2 : k ≠ 2 := k2
    by_cases ha : (ks.length : Int) = arityP k
    · by_cases k1 : k = 1
      · subst k1; rw [right_num ha] at h ⊢; have := of_decide_eq_true h; exact decide_eq_true (by omega)
      · by_cases k3 : k = 3
        · subst k3; rw [right_succ ha] at h ⊢; have := of_decide_eq_true h; exact decide_eq_true (by omega)
        · exact right_else ha k1 k2 k3
    · rw [right_bad ha] at h; cases h
theorem mayF_snd {v : Int} (hv : v ≤ 1001) {l : Lv} {d s : Int} (h0 : 0 ≤ s) (h : (mayF v l d s).1 = 0) : sndF l d s = (0, s + 1) ∧ mayF v l d s = (0, s + 1) := by
  have h1 := mayF_small' h0 h
  refine ⟨sndF_ok ?_, h1.2.2.2⟩
  have hr : rightP l 1099511627776 1000 = true := by
    by_cases h3 : 32 < d ∨ 100 < s + 1
    · rw [mayF_long h3] at h; cases h
    · by_cases h2 : l.kind = 2 ∧ l.kids = []
      · rw [mayF_var h3 h2] at h
        obtain ⟨k, n, ks⟩ := l
        obtain ⟨e1, e2⟩ := h2
        have e1 : k = 2 := e1
        have e2 : ks = [] := e2
        subst e1 e2
        rw [right_var rfl]
        split at h
        · cases h
        · rename_i hn
          simp only [Lv.num] at hn
          exact decide_eq_true (by omega)
      · rw [mayF_rest h3 h2] at h
        cases hrr : rightP l 1048576 0 with
        | false => rw [hrr] at h; cases h
        | true =>
          refine arity_p l (by decide) hrr fun k2 => ?_
          exfalso
          apply h2
          refine ⟨k2, ?_⟩
          obtain ⟨k, n, ks⟩ := l
          have k2 : k = 2 := k2
          subst k2
          by_cases ha : (ks.length : Int) = arityP 2
          · have e2 : arityP 2 = 0 := by decide
            show ks = []
            exact List.eq_nil_of_length_eq_zero (by omega)
          · rw [right_bad ha] at hrr; cases hrr
  rw [hr]
  have := h1.1
  have := h1.2.1
  simp
  omega
mutual
theorem walk_snd {v : Int} (hv : v ≤ 1001) : (l : Lv) → (d s : Int) → 0 ≤ s → (walkP (mayF v) l d s).1 = 0 → walkP sndF l d s = walkP (mayF v) l d s
  | .mk k n ks, d, s, h0, h => by
    by_cases h1 : (mayF v (.mk k n ks) d s).1 = 0
    · have h2 := mayF_snd hv h0 h1
      rw [walkP_go h1, h2.2] at h ⊢
      rw [walkP_go (by rw [h2.1]), h2.1]
      exact walks_snd hv ks (d + 1) (s + 1) (by omega) h
    · rw [walkP_stop h1] at h; exact absurd h h1
theorem walks_snd {v : Int} (hv : v ≤ 1001) : (ks : List Lv) → (d s : Int) → 0 ≤ s → (walkKs (mayF v) ks d s).1 = 0 → walkKs sndF ks d s = walkKs (mayF v) ks d s
  | [], _, _, _, _ => rfl
  | y :: r, d, s, h0, h => by
    by_cases h2 : (walkP (mayF v) y d s).1 = 0
    · rw [walkKs_go h2] at h
      have h3 := walkP_small (mayF_small v) y d s h0 h2
      have h4 := walk_snd hv y d s h0 h2
      rw [walkKs_go (by rw [h4]; exact h2), walkKs_go h2, h4]
      exact walks_snd hv r d _ h3.1 h
    · rw [walkKs_stop h2] at h; exact absurd h h2
end
theorem mayB_sound {v : Int} (hv : v ≤ 1001) {l : Lv} (h : mayB v l = 0) : soundB l = true := by
  unfold soundB
  rw [walk_snd hv l 1 0 (by decide) h]
  unfold mayB at h
  rw [h]
  rfl
theorem mayLs_all {v : Int} : ∀ {ls : List Lv}, mayLs v ls = 0 → ∀ l ∈ ls, mayB v l = 0
  | [], _ => fun l hl => by cases hl
  | x :: r, h => by
    by_cases h1 : mayB v x = 0
    · rw [mayLs_go h1] at h
      intro l hl
      rcases List.mem_cons.1 hl with rfl | hl
      · exact h1
      · exact mayLs_all h l hl
    · rw [mayLs_stop h1] at h; exact absurd h h1
/-- Each node may be. -/
inductive MayN (v : Int) : Tm → Prop
  | mk {t : Tm} (h : mnP v t = 0) (hk : ∀ i : Fin (nK t), MayN v (kidF t i)) : MayN v t
theorem may_nodes (v : Int) (N : Nat) : ∀ (t : Tm), SizeOf.sizeOf t < N → ∀ (d b n : Int), (foldP (mtF v) t d b (n, 0)).1 = true → MayN v t := by
  induction N with
  | zero => intro t h; omega
  | succ N ih =>
    intro t hN d b n h
    by_cases hl : 64 < d ∨ 400 < n + 1
    · rw [mt_long hl] at h; cases h
    · by_cases hm : mnP v t = 0
      · rw [mt_go hl hm] at h
        have key : ∀ (xs : List (Fin (nK t))) (n : Int), (runL (kidsM v t d b) xs (n, 0)).1 = true → ∀ x ∈ xs, MayN v (kidF t x) := by
          intro xs
          induction xs with
          | nil => intro n _ x hx; cases hx
          | cons x r ihr =>
            intro n hm
            rw [runL] at hm
            by_cases hc : (kidsM v t d b x (n, 0)).1 = true
            · rw [if_pos hc] at hm
              have h4 := may_fine v _ (kidF t x) (Nat.lt_succ_self _) (d + 1) (b + moreZ t x) n hc
              have h42 : (kidsM v t d b x (n, 0)).2 = (n + sizeT (kidF t x), 0) := h4.2.2.2
              rw [h42] at hm
              intro y hy
              rcases List.mem_cons.1 hy with rfl | hy
              · exact ih _ (by have := kidF_lt t y; omega) _ _ _ hc
              · exact ihr _ hm y hy
            · rw [if_neg hc] at hm; cases hm
        exact .mk hm fun i => key _ _ h i (List.mem_finRange i)
      · rw [mt_stop hl rfl hm] at h; cases h
theorem may_lf {v : Int} (hv : v ≤ 1001) {t : Tm} (h : MayN v t) : ∀ b, AllL (fun x _ => LfOk x ∧ (x.kind = 1 → 0 ≤ x.num ∧ x.num ≤ 1048576)) t b := by
  induction h with
  | @mk t hm _ ih =>
    intro b
    cases hl : leafT t with
    | true =>
      refine .leaf hl ⟨⟨fun k => ?_, fun k => ?_⟩, fun k => mn_num0 hm k⟩
      · rw [mn_sort (mn_arity hm) k] at hm; exact mayB_sound hv hm
      · rw [mn_const (mn_arity hm) k] at hm
        split at hm
        · cases hm
        · split at hm
          · cases hm
          · exact fun l hl => mayB_sound hv (mayLs_all hm l hl)
    | false => exact .node hl fun i => ih i _
/-- A term that may be: its leaves, its size. -/
structure Whole (t : Tm) : Prop where
  lf : ∀ b, AllL (fun x _ => LfOk x) t b
  num : ∀ b, AllL (fun x _ => x.kind = 1 → 0 ≤ x.num ∧ x.num ≤ 1048576) t b
  fine : Fine t
  depth : depthT t ≤ 64
  size : sizeT t ≤ 400
  may : MayN 6 t
theorem whole_of {t : Tm} (h : mayT 6 t = 0) : Whole t := by
  have h1 := (mt_true 6 _ t (Nat.lt_succ_self _) 1 0 (0, 0)).2 h
  have h2 := may_nodes 6 _ t (Nat.lt_succ_self _) 1 0 0 h1
  have h3 := may_ok h
  exact ⟨fun b => (may_lf (by decide) h2 b).mono fun _ _ _ h => h.1, fun b => (may_lf (by decide) h2 b).mono fun _ _ _ h => h.2, h3.1, h3.2.1, h3.2.2, h2⟩
theorem Whole.ok {t : Tm} (h : Whole t) : okT t := ⟨by have := h.size; omega, by have := h.depth; omega⟩
end Go.Proofs.Ytdboloabpjmgaaa

/-! SeR -/
namespace Go.Proofs.Ytdboloabpjmgaaa
open Go.RowKit Go.Proofs.YtdboloabpjmgaaaW.PrintWords Go.RegionInvYtdboloabpjmgaaa Go.RegionEYtdboloabpjmgaaa
set_option linter.unusedVariables false

def spn_ops : List Oper := [
  { dst := some 6, op := Go.Op.fieldAddr 28 (Go.Operand.tmp 2) 0, type := 0, pos := "term.go:249", after := #[], guard := none },
  { dst := some 7, op := Go.Op.load 3 (Go.Operand.tmp 6), type := 3, pos := "term.go:249", after := #[{ on := 0, ground := Go.Ground.data }], guard := none },
  { dst := some 8, op := Go.Op.fieldAddr 28 (Go.Operand.tmp 3) 0, type := 0, pos := "term.go:249", after := #[], guard := none },
  { dst := some 9, op := Go.Op.load 3 (Go.Operand.tmp 8), type := 3, pos := "term.go:249", after := #[{ on := 2, ground := Go.Ground.data }], guard := none },
  { dst := some 10, op := Go.Op.binOp Go.BinOp.neq 3 (Go.Operand.tmp 7) (Go.Operand.tmp 9) 3, type := 4, pos := "term.go:249", after := #[{ on := 1, ground := Go.Ground.data }, { on := 3, ground := Go.Ground.data }], guard := none },
  { dst := some 11, op := Go.Op.move (Go.Operand.tmp 10), type := 4, pos := "term.go:249", after := #[{ on := 4, ground := Go.Ground.data }], guard := none },
  { dst := some 12, op := Go.Op.load 28 (Go.Operand.tmp 2), type := 28, pos := "term.go:249", after := #[{ on := 5, ground := Go.Ground.guard }], guard := some (5, false) },
  { dst := some 13, op := Go.Op.call { callee := Go.Callee.value (Go.Operand.func 75), args := #[Go.Operand.tmp 12], argTypes := #[28] }, type := 4, pos := "term.go:249", after := #[{ on := 6, ground := Go.Ground.data }, { on := 5, ground := Go.Ground.chain }, { on := 5, ground := Go.Ground.guard }], guard := some (5, false) },
  { dst := some 14, op := Go.Op.load 28 (Go.Operand.tmp 3), type := 28, pos := "term.go:249", after := #[{ on := 5, ground := Go.Ground.guard }], guard := some (5, false) },
  { dst := some 15, op := Go.Op.call { callee := Go.Callee.value (Go.Operand.func 75), args := #[Go.Operand.tmp 14], argTypes := #[28] }, type := 4, pos := "term.go:249", after := #[{ on := 8, ground := Go.Ground.data }, { on := 7, ground := Go.Ground.chain }, { on := 5, ground := Go.Ground.guard }], guard := some (5, false) },
  { dst := some 16, op := Go.Op.binOp Go.BinOp.neq 4 (Go.Operand.tmp 13) (Go.Operand.tmp 15) 4, type := 4, pos := "term.go:249", after := #[{ on := 7, ground := Go.Ground.data }, { on := 9, ground := Go.Ground.data }, { on := 5, ground := Go.Ground.guard }], guard := some (5, false) },
  { dst := some 17, op := Go.Op.pick (Go.Operand.tmp 11) (Go.Operand.const (Go.Value.bool true)) (Go.Operand.tmp 16), type := 4, pos := "term.go:249", after := #[{ on := 5, ground := Go.Ground.data }, { on := 10, ground := Go.Ground.data }], guard := none }]
def spn_F (w0 : World) (g h : Nat) (p q : Pl) (t u : Tm) : Nat → (Nat → Value) → Value → World → (Nat → Prop) → Prop := fun rix => match rix with
  | 0 => fun _ v _ _ => v = .pointer (some ⟨g, 0, none⟩)
  | 1 => fun _ v _ _ => v = .int .i64 t.kind
  | 2 => fun _ v _ _ => v = .pointer (some ⟨h, 0, none⟩)
  | 3 => fun _ v _ _ => v = .int .i64 u.kind
  | 4 => fun _ v _ _ => v = .bool true
  | 5 => fun _ v _ _ => v = .bool true
  | 6 => fun _ v _ _ => v = undef
  | 7 => fun _ v _ _ => v = undef
  | 8 => fun _ v _ _ => v = undef
  | 9 => fun _ v _ _ => v = undef
  | 10 => fun _ v _ _ => v = undef
  | 11 => fun _ v _ _ => v = .bool true
  | _ => fun _ _ _ _ => True
def spn_C : Nat → List Nat := fun rix => match rix with
  | _ => []
theorem spn_nw2 : nwB spn_ops.toArray 2 = true := by kernel_rfl
theorem spn_nw3 : nwB spn_ops.toArray 3 = true := by kernel_rfl
set_option maxRecDepth 100000 in
set_option maxHeartbeats 8000000 in
theorem spn_obs (w0 : World) (g h : Nat) (p q : Pl) (t u : Tm) (hx2 : w0.heap[g]? = some (tmO p t)) (hx3 : w0.heap[h]? = some (tmO q u)) (hkk : t.kind ≠ u.kind) (Q : Exit → Act → World → Prop) (a0 : Act) (hi2 : a0.tmps.getD 2 undef = .pointer (some ⟨g, 0, none⟩)) (hi3 : a0.tmps.getD 3 undef = .pointer (some ⟨h, 0, none⟩)) :
    ObsE Try.prog spn_ops.toArray Q (est2 0 0 (fun _ => False) (fun _ => False)) spn_C (spn_F w0 g h p q t u) a0 w0 spn_ops.toArray.toList 0 := by
  have nw2 := spn_nw2
  have nw3 := spn_nw3
  refine ⟨?_, ?_, ?_, ?_, ?_, ?_, ?_, ?_, ?_, ?_, ?_, ?_, trivial⟩
  · refine ⟨⟨fun τ => stableE_det _, leans_not⟩, ?_⟩
    intro a w O hk
    have e2 : a.eval (.tmp 2) = .pointer (some ⟨g, 0, none⟩) := (hk.init 2 (initialB_of_nw nw2)).trans hi2
    exact obE_run (wanted_none rfl) (by unfold execOp; simp only []; rw [e2]; go_simp) rfl
  · refine ⟨⟨fun τ => stableE_det _, leans_not⟩, ?_⟩
    intro a w O hk
    have e6 : a.eval (.tmp 6) = .pointer (some ⟨g, 0, none⟩) := hk.fact 0 _ 6 rfl rfl rfl rfl
    have x2 := hk.world.still hx2 (fun ⟨_, h⟩ => h.elim And.right And.right)
    obtain ⟨p0, p1, p2, p3, p4, p5, p6, p7⟩ := row8 x2
    exact obE_run (wanted_none rfl) (by unfold execOp; simp only []; rw [e6]; go_simp) rfl
  · refine ⟨⟨fun τ => stableE_det _, leans_not⟩, ?_⟩
    intro a w O hk
    have e3 : a.eval (.tmp 3) = .pointer (some ⟨h, 0, none⟩) := (hk.init 3 (initialB_of_nw nw3)).trans hi3
    exact obE_run (wanted_none rfl) (by unfold execOp; simp only []; rw [e3]; go_simp) rfl
  · refine ⟨⟨fun τ => stableE_det _, leans_not⟩, ?_⟩
    intro a w O hk
    have e8 : a.eval (.tmp 8) = .pointer (some ⟨h, 0, none⟩) := hk.fact 2 _ 8 rfl rfl rfl rfl
    have x3 := hk.world.still hx3 (fun ⟨_, h⟩ => h.elim And.right And.right)
    obtain ⟨p0, p1, p2, p3, p4, p5, p6, p7⟩ := row8 x3
    exact obE_run (wanted_none rfl) (by unfold execOp; simp only []; rw [e8]; go_simp) rfl
  · refine ⟨⟨fun τ => stableE_det _, leans_not⟩, ?_⟩
    intro a w O hk
    have e7 : a.eval (.tmp 7) = .int .i64 t.kind := hk.fact 1 _ 7 rfl rfl rfl rfl
    have e9 : a.eval (.tmp 9) = .int .i64 u.kind := hk.fact 3 _ 9 rfl rfl rfl rfl
    exact toE (ob_neqInt true rfl e7 e9 (by simp [hkk]) (wanted_none rfl) rfl)
  · refine ⟨⟨fun τ => stableE_det _, leans_not⟩, ?_⟩
    intro a w O hk
    have e10 : a.eval (.tmp 10) = .bool true := hk.fact 4 _ 10 rfl rfl rfl rfl
    exact toE (ob_move rfl e10 (wanted_none rfl) rfl)
  · refine ⟨⟨fun τ => stableE_det _, leans_not⟩, ?_⟩
    intro a w O hk
    have e2 : a.eval (.tmp 2) = .pointer (some ⟨g, 0, none⟩) := (hk.init 2 (initialB_of_nw nw2)).trans hi2
    have e11 : a.eval (.tmp 11) = .bool true := hk.fact 5 _ 11 rfl rfl rfl rfl
    exact toE (ob_skip (unwanted_of rfl rfl rfl e11 (by decide)) rfl)
  · refine ⟨⟨fun τ => stableE_det _, leans_not⟩, ?_⟩
    intro a w O hk
    have e12 : a.eval (.tmp 12) = undef := hk.fact 6 _ 12 rfl rfl rfl rfl
    have e11 : a.eval (.tmp 11) = .bool true := hk.fact 5 _ 11 rfl rfl rfl rfl
    exact toE (ob_skip (unwanted_of rfl rfl rfl e11 (by decide)) rfl)
  · refine ⟨⟨fun τ => stableE_det _, leans_not⟩, ?_⟩
    intro a w O hk
    have e3 : a.eval (.tmp 3) = .pointer (some ⟨h, 0, none⟩) := (hk.init 3 (initialB_of_nw nw3)).trans hi3
    have e11 : a.eval (.tmp 11) = .bool true := hk.fact 5 _ 11 rfl rfl rfl rfl
    exact toE (ob_skip (unwanted_of rfl rfl rfl e11 (by decide)) rfl)
  · refine ⟨⟨fun τ => stableE_det _, leans_not⟩, ?_⟩
    intro a w O hk
    have e14 : a.eval (.tmp 14) = undef := hk.fact 8 _ 14 rfl rfl rfl rfl
    have e11 : a.eval (.tmp 11) = .bool true := hk.fact 5 _ 11 rfl rfl rfl rfl
    exact toE (ob_skip (unwanted_of rfl rfl rfl e11 (by decide)) rfl)
  · refine ⟨⟨fun τ => stableE_det _, leans_not⟩, ?_⟩
    intro a w O hk
    have e13 : a.eval (.tmp 13) = undef := hk.fact 7 _ 13 rfl rfl rfl rfl
    have e15 : a.eval (.tmp 15) = undef := hk.fact 9 _ 15 rfl rfl rfl rfl
    have e11 : a.eval (.tmp 11) = .bool true := hk.fact 5 _ 11 rfl rfl rfl rfl
    exact toE (ob_skip (unwanted_of rfl rfl rfl e11 (by decide)) rfl)
  · refine ⟨⟨fun τ => stableE_det _, leans_not⟩, ?_⟩
    intro a w O hk
    have e11 : a.eval (.tmp 11) = .bool true := hk.fact 5 _ 11 rfl rfl rfl rfl
    have e16 : a.eval (.tmp 16) = undef := hk.fact 10 _ 16 rfl rfl rfl rfl
    exact toE (ob_pick rfl e11 rfl (wanted_none rfl) rfl)
set_option maxRecDepth 100000 in
set_option maxHeartbeats 8000000 in
theorem spn_region {Q : Exit → Act → World → Prop} {id : Nat} (w0 : World) (g h : Nat) (p q : Pl) (t u : Tm) {s0 s1 s4 s5 s6 s7 s8 s9 s10 s11 s12 s13 s14 s15 s16 s17 s18 s19 s20 s21 s22 s23 s24 s25 s26 s27 s28 s29 s30 s31 s32 s33 s34 s35 s36 s37 s38 s39 s40 s41 s42 s43 s44 s45 s46 s47 s48 s49 s50 s51 s52 s53 s54 s55 s56 s57 s58 s59 s60 s61 s62 s63 s64 s65 s66 s67 s68 : Value} (hx2 : w0.heap[g]? = some (tmO p t)) (hx3 : w0.heap[h]? = some (tmO q u)) (hkk : t.kind ≠ u.kind)
    (hend : ∀ (w' : World), Chg (fun k => False ∨ False) w0 w' → Q .normal { tmps := (s0 :: s1 :: (.pointer (some ⟨g, 0, none⟩) : Value) :: (.pointer (some ⟨h, 0, none⟩) : Value) :: s4 :: s5 :: (.pointer (some ⟨g, 0, none⟩) : Value) :: (.int .i64 t.kind : Value) :: (.pointer (some ⟨h, 0, none⟩) : Value) :: (.int .i64 u.kind : Value) :: (.bool true : Value) :: (.bool true : Value) :: undef :: undef :: undef :: undef :: undef :: (.bool true : Value) :: s18 :: s19 :: s20 :: s21 :: s22 :: s23 :: s24 :: s25 :: s26 :: s27 :: s28 :: s29 :: s30 :: s31 :: s32 :: s33 :: s34 :: s35 :: s36 :: s37 :: s38 :: s39 :: s40 :: s41 :: s42 :: s43 :: s44 :: s45 :: s46 :: s47 :: s48 :: s49 :: s50 :: s51 :: s52 :: s53 :: s54 :: s55 :: s56 :: s57 :: s58 :: s59 :: s60 :: s61 :: s62 :: s63 :: s64 :: s65 :: s66 :: s67 :: s68 :: ([] : List Value)).toArray, defers := [] } w') :
    (Code.region id spn_ops.toArray true).wp Try.prog Q { tmps := (s0 :: s1 :: (.pointer (some ⟨g, 0, none⟩) : Value) :: (.pointer (some ⟨h, 0, none⟩) : Value) :: s4 :: s5 :: s6 :: s7 :: s8 :: s9 :: s10 :: s11 :: s12 :: s13 :: s14 :: s15 :: s16 :: s17 :: s18 :: s19 :: s20 :: s21 :: s22 :: s23 :: s24 :: s25 :: s26 :: s27 :: s28 :: s29 :: s30 :: s31 :: s32 :: s33 :: s34 :: s35 :: s36 :: s37 :: s38 :: s39 :: s40 :: s41 :: s42 :: s43 :: s44 :: s45 :: s46 :: s47 :: s48 :: s49 :: s50 :: s51 :: s52 :: s53 :: s54 :: s55 :: s56 :: s57 :: s58 :: s59 :: s60 :: s61 :: s62 :: s63 :: s64 :: s65 :: s66 :: s67 :: s68 :: ([] : List Value)).toArray, defers := [] } w0 := by
  refine wp_region_est (by kernel_rfl) (est2 0 0 (fun _ => False) (fun _ => False)) spn_C (spn_F w0 g h p q t u) (est2_dis (fun _ h _ => h)) (est2_range (fun _ h => h.elim) (fun _ h => h.elim)) (by rfl) (by kernel_rfl) (spn_obs w0.drew g h p q t u hx2 hx3 hkk _ _ rfl rfl) ?_
  intro a w' O hd hs hb hf hf2 ha hsame
  have hx : ∀ (qi : Nat) (qv : Value), nwB spn_ops.toArray qi = true → (s0 :: s1 :: (.pointer (some ⟨g, 0, none⟩) : Value) :: (.pointer (some ⟨h, 0, none⟩) : Value) :: s4 :: s5 :: s6 :: s7 :: s8 :: s9 :: s10 :: s11 :: s12 :: s13 :: s14 :: s15 :: s16 :: s17 :: s18 :: s19 :: s20 :: s21 :: s22 :: s23 :: s24 :: s25 :: s26 :: s27 :: s28 :: s29 :: s30 :: s31 :: s32 :: s33 :: s34 :: s35 :: s36 :: s37 :: s38 :: s39 :: s40 :: s41 :: s42 :: s43 :: s44 :: s45 :: s46 :: s47 :: s48 :: s49 :: s50 :: s51 :: s52 :: s53 :: s54 :: s55 :: s56 :: s57 :: s58 :: s59 :: s60 :: s61 :: s62 :: s63 :: s64 :: s65 :: s66 :: s67 :: s68 :: ([] : List Value)).toArray.getD qi undef = qv → a.tmps.getD qi undef = qv := fun qi qv h e => (hsame qi (nwB.spec h)).trans e
  have x0 := hx 0 s0 (by kernel_rfl) rfl
  have x1 := hx 1 s1 (by kernel_rfl) rfl
  have x2 := hx 2 (.pointer (some ⟨g, 0, none⟩)) (by kernel_rfl) rfl
  have x3 := hx 3 (.pointer (some ⟨h, 0, none⟩)) (by kernel_rfl) rfl
  have x4 := hx 4 s4 (by kernel_rfl) rfl
  have x5 := hx 5 s5 (by kernel_rfl) rfl
  have x6 : a.tmps.getD 6 undef = .pointer (some ⟨g, 0, none⟩) := (hf 0 _ 6 rfl rfl (by decide)).1
  have x7 : a.tmps.getD 7 undef = .int .i64 t.kind := (hf 1 _ 7 rfl rfl (by decide)).1
  have x8 : a.tmps.getD 8 undef = .pointer (some ⟨h, 0, none⟩) := (hf 2 _ 8 rfl rfl (by decide)).1
  have x9 : a.tmps.getD 9 undef = .int .i64 u.kind := (hf 3 _ 9 rfl rfl (by decide)).1
  have x10 : a.tmps.getD 10 undef = .bool true := (hf 4 _ 10 rfl rfl (by decide)).1
  have x11 : a.tmps.getD 11 undef = .bool true := (hf 5 _ 11 rfl rfl (by decide)).1
  have x12 : a.tmps.getD 12 undef = undef := (hf 6 _ 12 rfl rfl (by decide)).1
  have x13 : a.tmps.getD 13 undef = undef := (hf 7 _ 13 rfl rfl (by decide)).1
  have x14 : a.tmps.getD 14 undef = undef := (hf 8 _ 14 rfl rfl (by decide)).1
  have x15 : a.tmps.getD 15 undef = undef := (hf 9 _ 15 rfl rfl (by decide)).1
  have x16 : a.tmps.getD 16 undef = undef := (hf 10 _ 16 rfl rfl (by decide)).1
  have x17 : a.tmps.getD 17 undef = .bool true := (hf 11 _ 17 rfl rfl (by decide)).1
  have x18 := hx 18 s18 (by kernel_rfl) rfl
  have x19 := hx 19 s19 (by kernel_rfl) rfl
  have x20 := hx 20 s20 (by kernel_rfl) rfl
  have x21 := hx 21 s21 (by kernel_rfl) rfl
  have x22 := hx 22 s22 (by kernel_rfl) rfl
  have x23 := hx 23 s23 (by kernel_rfl) rfl
  have x24 := hx 24 s24 (by kernel_rfl) rfl
  have x25 := hx 25 s25 (by kernel_rfl) rfl
  have x26 := hx 26 s26 (by kernel_rfl) rfl
  have x27 := hx 27 s27 (by kernel_rfl) rfl
  have x28 := hx 28 s28 (by kernel_rfl) rfl
  have x29 := hx 29 s29 (by kernel_rfl) rfl
  have x30 := hx 30 s30 (by kernel_rfl) rfl
  have x31 := hx 31 s31 (by kernel_rfl) rfl
  have x32 := hx 32 s32 (by kernel_rfl) rfl
  have x33 := hx 33 s33 (by kernel_rfl) rfl
  have x34 := hx 34 s34 (by kernel_rfl) rfl
  have x35 := hx 35 s35 (by kernel_rfl) rfl
  have x36 := hx 36 s36 (by kernel_rfl) rfl
  have x37 := hx 37 s37 (by kernel_rfl) rfl
  have x38 := hx 38 s38 (by kernel_rfl) rfl
  have x39 := hx 39 s39 (by kernel_rfl) rfl
  have x40 := hx 40 s40 (by kernel_rfl) rfl
  have x41 := hx 41 s41 (by kernel_rfl) rfl
  have x42 := hx 42 s42 (by kernel_rfl) rfl
  have x43 := hx 43 s43 (by kernel_rfl) rfl
  have x44 := hx 44 s44 (by kernel_rfl) rfl
  have x45 := hx 45 s45 (by kernel_rfl) rfl
  have x46 := hx 46 s46 (by kernel_rfl) rfl
  have x47 := hx 47 s47 (by kernel_rfl) rfl
  have x48 := hx 48 s48 (by kernel_rfl) rfl
  have x49 := hx 49 s49 (by kernel_rfl) rfl
  have x50 := hx 50 s50 (by kernel_rfl) rfl
  have x51 := hx 51 s51 (by kernel_rfl) rfl
  have x52 := hx 52 s52 (by kernel_rfl) rfl
  have x53 := hx 53 s53 (by kernel_rfl) rfl
  have x54 := hx 54 s54 (by kernel_rfl) rfl
  have x55 := hx 55 s55 (by kernel_rfl) rfl
  have x56 := hx 56 s56 (by kernel_rfl) rfl
  have x57 := hx 57 s57 (by kernel_rfl) rfl
  have x58 := hx 58 s58 (by kernel_rfl) rfl
  have x59 := hx 59 s59 (by kernel_rfl) rfl
  have x60 := hx 60 s60 (by kernel_rfl) rfl
  have x61 := hx 61 s61 (by kernel_rfl) rfl
  have x62 := hx 62 s62 (by kernel_rfl) rfl
  have x63 := hx 63 s63 (by kernel_rfl) rfl
  have x64 := hx 64 s64 (by kernel_rfl) rfl
  have x65 := hx 65 s65 (by kernel_rfl) rfl
  have x66 := hx 66 s66 (by kernel_rfl) rfl
  have x67 := hx 67 s67 (by kernel_rfl) rfl
  have x68 := hx 68 s68 (by kernel_rfl) rfl
  have hl : a.tmps = (s0 :: s1 :: (.pointer (some ⟨g, 0, none⟩) : Value) :: (.pointer (some ⟨h, 0, none⟩) : Value) :: s4 :: s5 :: (.pointer (some ⟨g, 0, none⟩) : Value) :: (.int .i64 t.kind : Value) :: (.pointer (some ⟨h, 0, none⟩) : Value) :: (.int .i64 u.kind : Value) :: (.bool true : Value) :: (.bool true : Value) :: undef :: undef :: undef :: undef :: undef :: (.bool true : Value) :: s18 :: s19 :: s20 :: s21 :: s22 :: s23 :: s24 :: s25 :: s26 :: s27 :: s28 :: s29 :: s30 :: s31 :: s32 :: s33 :: s34 :: s35 :: s36 :: s37 :: s38 :: s39 :: s40 :: s41 :: s42 :: s43 :: s44 :: s45 :: s46 :: s47 :: s48 :: s49 :: s50 :: s51 :: s52 :: s53 :: s54 :: s55 :: s56 :: s57 :: s58 :: s59 :: s60 :: s61 :: s62 :: s63 :: s64 :: s65 :: s66 :: s67 :: s68 :: ([] : List Value)).toArray := by
    have h := lit a.tmps 69 hs
    have e : ((List.range 69).map (fun i => a.tmps.getD i undef)).toArray = ((a.tmps.getD 0 undef : Value) :: (a.tmps.getD 1 undef : Value) :: (a.tmps.getD 2 undef : Value) :: (a.tmps.getD 3 undef : Value) :: (a.tmps.getD 4 undef : Value) :: (a.tmps.getD 5 undef : Value) :: (a.tmps.getD 6 undef : Value) :: (a.tmps.getD 7 undef : Value) :: (a.tmps.getD 8 undef : Value) :: (a.tmps.getD 9 undef : Value) :: (a.tmps.getD 10 undef : Value) :: (a.tmps.getD 11 undef : Value) :: (a.tmps.getD 12 undef : Value) :: (a.tmps.getD 13 undef : Value) :: (a.tmps.getD 14 undef : Value) :: (a.tmps.getD 15 undef : Value) :: (a.tmps.getD 16 undef : Value) :: (a.tmps.getD 17 undef : Value) :: (a.tmps.getD 18 undef : Value) :: (a.tmps.getD 19 undef : Value) :: (a.tmps.getD 20 undef : Value) :: (a.tmps.getD 21 undef : Value) :: (a.tmps.getD 22 undef : Value) :: (a.tmps.getD 23 undef : Value) :: (a.tmps.getD 24 undef : Value) :: (a.tmps.getD 25 undef : Value) :: (a.tmps.getD 26 undef : Value) :: (a.tmps.getD 27 undef : Value) :: (a.tmps.getD 28 undef : Value) :: (a.tmps.getD 29 undef : Value) :: (a.tmps.getD 30 undef : Value) :: (a.tmps.getD 31 undef : Value) :: (a.tmps.getD 32 undef : Value) :: (a.tmps.getD 33 undef : Value) :: (a.tmps.getD 34 undef : Value) :: (a.tmps.getD 35 undef : Value) :: (a.tmps.getD 36 undef : Value) :: (a.tmps.getD 37 undef : Value) :: (a.tmps.getD 38 undef : Value) :: (a.tmps.getD 39 undef : Value) :: (a.tmps.getD 40 undef : Value) :: (a.tmps.getD 41 undef : Value) :: (a.tmps.getD 42 undef : Value) :: (a.tmps.getD 43 undef : Value) :: (a.tmps.getD 44 undef : Value) :: (a.tmps.getD 45 undef : Value) :: (a.tmps.getD 46 undef : Value) :: (a.tmps.getD 47 undef : Value) :: (a.tmps.getD 48 undef : Value) :: (a.tmps.getD 49 undef : Value) :: (a.tmps.getD 50 undef : Value) :: (a.tmps.getD 51 undef : Value) :: (a.tmps.getD 52 undef : Value) :: (a.tmps.getD 53 undef : Value) :: (a.tmps.getD 54 undef : Value) :: (a.tmps.getD 55 undef : Value) :: (a.tmps.getD 56 undef : Value) :: (a.tmps.getD 57 undef : Value) :: (a.tmps.getD 58 undef : Value) :: (a.tmps.getD 59 undef : Value) :: (a.tmps.getD 60 undef : Value) :: (a.tmps.getD 61 undef : Value) :: (a.tmps.getD 62 undef : Value) :: (a.tmps.getD 63 undef : Value) :: (a.tmps.getD 64 undef : Value) :: (a.tmps.getD 65 undef : Value) :: (a.tmps.getD 66 undef : Value) :: (a.tmps.getD 67 undef : Value) :: (a.tmps.getD 68 undef : Value) :: ([] : List Value)).toArray := rfl
    rw [e, x0, x1, x2, x3, x4, x5, x6, x7, x8, x9, x10, x11, x12, x13, x14, x15, x16, x17, x18, x19, x20, x21, x22, x23, x24, x25, x26, x27, x28, x29, x30, x31, x32, x33, x34, x35, x36, x37, x38, x39, x40, x41, x42, x43, x44, x45, x46, x47, x48, x49, x50, x51, x52, x53, x54, x55, x56, x57, x58, x59, x60, x61, x62, x63, x64, x65, x66, x67, x68] at h
    exact h
  obtain ⟨tmps, defers⟩ := a
  obtain rfl : defers = [] := hd
  have hl' : tmps = _ := hl
  rw [hl']
  have hb' := est2_chg hb
  exact hend w' ⟨hb'.os, hb'.tape, hb'.output, hb'.size, hb'.block⟩

def spy_F (w0 : World) (g h : Nat) (p q : Pl) (t u : Tm) (la lb nl : Bool) : Nat → (Nat → Value) → Value → World → (Nat → Prop) → Prop := fun rix => match rix with
  | 0 => fun _ v _ _ => v = .pointer (some ⟨g, 0, none⟩)
  | 1 => fun _ v _ _ => v = .int .i64 t.kind
  | 2 => fun _ v _ _ => v = .pointer (some ⟨h, 0, none⟩)
  | 3 => fun _ v _ _ => v = .int .i64 u.kind
  | 4 => fun _ v _ _ => v = .bool false
  | 5 => fun _ v _ _ => v = .bool false
  | 6 => fun _ v _ _ => v = tmV p t
  | 7 => fun _ v _ _ => v = .bool la
  | 8 => fun _ v _ _ => v = tmV q u
  | 9 => fun _ v _ _ => v = .bool lb
  | 10 => fun _ v _ _ => v = .bool nl
  | 11 => fun _ v _ _ => v = .bool nl
  | _ => fun _ _ _ _ => True
def spy_C : Nat → List Nat := fun rix => match rix with
  | _ => []
theorem spy_nw2 : nwB spn_ops.toArray 2 = true := by kernel_rfl
theorem spy_nw3 : nwB spn_ops.toArray 3 = true := by kernel_rfl
set_option maxRecDepth 100000 in
set_option maxHeartbeats 8000000 in
theorem spy_obs (w0 : World) (g h : Nat) (p q : Pl) (t u : Tm) (la lb nl : Bool) (hx2 : w0.heap[g]? = some (tmO p t)) (hx3 : w0.heap[h]? = some (tmO q u)) (hkk : t.kind = u.kind) (hla : leafT t = la) (hlb : leafT u = lb) (hnl : (la != lb) = nl) (Q : Exit → Act → World → Prop) (a0 : Act) (hi2 : a0.tmps.getD 2 undef = .pointer (some ⟨g, 0, none⟩)) (hi3 : a0.tmps.getD 3 undef = .pointer (some ⟨h, 0, none⟩)) :
    ObsE Try.prog spn_ops.toArray Q (est2 0 0 (fun _ => False) (fun _ => False)) spy_C (spy_F w0 g h p q t u la lb nl) a0 w0 spn_ops.toArray.toList 0 := by
  have nw2 := spy_nw2
  have nw3 := spy_nw3
  refine ⟨?_, ?_, ?_, ?_, ?_, ?_, ?_, ?_, ?_, ?_, ?_, ?_, trivial⟩
  · refine ⟨⟨fun τ => stableE_det _, leans_not⟩, ?_⟩
    intro a w O hk
    have e2 : a.eval (.tmp 2) = .pointer (some ⟨g, 0, none⟩) := (hk.init 2 (initialB_of_nw nw2)).trans hi2
    exact obE_run (wanted_none rfl) (by unfold execOp; simp only []; rw [e2]; go_simp) rfl
  · refine ⟨⟨fun τ => stableE_det _, leans_not⟩, ?_⟩
    intro a w O hk
    have e6 : a.eval (.tmp 6) = .pointer (some ⟨g, 0, none⟩) := hk.fact 0 _ 6 rfl rfl rfl rfl
    have x2 := hk.world.still hx2 (fun ⟨_, h⟩ => h.elim And.right And.right)
    obtain ⟨p0, p1, p2, p3, p4, p5, p6, p7⟩ := row8 x2
    exact obE_run (wanted_none rfl) (by unfold execOp; simp only []; rw [e6]; go_simp) rfl
  · refine ⟨⟨fun τ => stableE_det _, leans_not⟩, ?_⟩
    intro a w O hk
    have e3 : a.eval (.tmp 3) = .pointer (some ⟨h, 0, none⟩) := (hk.init 3 (initialB_of_nw nw3)).trans hi3
    exact obE_run (wanted_none rfl) (by unfold execOp; simp only []; rw [e3]; go_simp) rfl
  · refine ⟨⟨fun τ => stableE_det _, leans_not⟩, ?_⟩
    intro a w O hk
    have e8 : a.eval (.tmp 8) = .pointer (some ⟨h, 0, none⟩) := hk.fact 2 _ 8 rfl rfl rfl rfl
    have x3 := hk.world.still hx3 (fun ⟨_, h⟩ => h.elim And.right And.right)
    obtain ⟨p0, p1, p2, p3, p4, p5, p6, p7⟩ := row8 x3
    exact obE_run (wanted_none rfl) (by unfold execOp; simp only []; rw [e8]; go_simp) rfl
  · refine ⟨⟨fun τ => stableE_det _, leans_not⟩, ?_⟩
    intro a w O hk
    have e7 : a.eval (.tmp 7) = .int .i64 t.kind := hk.fact 1 _ 7 rfl rfl rfl rfl
    have e9 : a.eval (.tmp 9) = .int .i64 u.kind := hk.fact 3 _ 9 rfl rfl rfl rfl
    exact toE (ob_neqInt false rfl e7 e9 (by simp [hkk]) (wanted_none rfl) rfl)
  · refine ⟨⟨fun τ => stableE_det _, leans_not⟩, ?_⟩
    intro a w O hk
    have e10 : a.eval (.tmp 10) = .bool false := hk.fact 4 _ 10 rfl rfl rfl rfl
    exact toE (ob_move rfl e10 (wanted_none rfl) rfl)
  · refine ⟨⟨fun τ => stableE_det _, leans_not⟩, ?_⟩
    intro a w O hk
    have e2 : a.eval (.tmp 2) = .pointer (some ⟨g, 0, none⟩) := (hk.init 2 (initialB_of_nw nw2)).trans hi2
    have e11 : a.eval (.tmp 11) = .bool false := hk.fact 5 _ 11 rfl rfl rfl rfl
    have x2 := hk.world.still hx2 (fun ⟨_, h⟩ => h.elim And.right And.right)
    exact obE_loadRow rfl e2 x2 Try.underlying28 rfl (by kernel_rfl) (wanted_of rfl rfl rfl e11) rfl
  · refine ⟨⟨fun τ => stableE_det _, leans_not⟩, ?_⟩
    intro a w O hk
    have e12 : a.eval (.tmp 12) = tmV p t := hk.fact 6 _ 12 rfl rfl rfl rfl
    have e11 : a.eval (.tmp 11) = .bool false := hk.fact 5 _ 11 rfl rfl rfl rfl
    exact obE_callV #[tmV p t] rfl rfl rfl rfl (by simp only [List.map_cons, List.map_nil]; rw [e12]) (wanted_of rfl rfl rfl e11) ((leaf_calls t p w).mono fun e w' h => ⟨by rw [h.1, hla], h.2⟩)
  · refine ⟨⟨fun τ => stableE_det _, leans_not⟩, ?_⟩
    intro a w O hk
    have e3 : a.eval (.tmp 3) = .pointer (some ⟨h, 0, none⟩) := (hk.init 3 (initialB_of_nw nw3)).trans hi3
    have e11 : a.eval (.tmp 11) = .bool false := hk.fact 5 _ 11 rfl rfl rfl rfl
    have x3 := hk.world.still hx3 (fun ⟨_, h⟩ => h.elim And.right And.right)
    exact obE_loadRow rfl e3 x3 Try.underlying28 rfl (by kernel_rfl) (wanted_of rfl rfl rfl e11) rfl
  · refine ⟨⟨fun τ => stableE_det _, leans_not⟩, ?_⟩
    intro a w O hk
    have e14 : a.eval (.tmp 14) = tmV q u := hk.fact 8 _ 14 rfl rfl rfl rfl
    have e11 : a.eval (.tmp 11) = .bool false := hk.fact 5 _ 11 rfl rfl rfl rfl
    exact obE_callV #[tmV q u] rfl rfl rfl rfl (by simp only [List.map_cons, List.map_nil]; rw [e14]) (wanted_of rfl rfl rfl e11) ((leaf_calls u q w).mono fun e w' h => ⟨by rw [h.1, hlb], h.2⟩)
  · refine ⟨⟨fun τ => stableE_det _, leans_not⟩, ?_⟩
    intro a w O hk
    have e13 : a.eval (.tmp 13) = .bool la := hk.fact 7 _ 13 rfl rfl rfl rfl
    have e15 : a.eval (.tmp 15) = .bool lb := hk.fact 9 _ 15 rfl rfl rfl rfl
    have e11 : a.eval (.tmp 11) = .bool false := hk.fact 5 _ 11 rfl rfl rfl rfl
    exact toE (ob_neB nl rfl e13 e15 Try.underlying4 hnl (wanted_of rfl rfl rfl e11) rfl)
  · refine ⟨⟨fun τ => stableE_det _, leans_not⟩, ?_⟩
    intro a w O hk
    have e11 : a.eval (.tmp 11) = .bool false := hk.fact 5 _ 11 rfl rfl rfl rfl
    have e16 : a.eval (.tmp 16) = .bool nl := hk.fact 10 _ 16 rfl rfl rfl rfl
    exact toE (ob_pick rfl e11 e16 (wanted_none rfl) rfl)
set_option maxRecDepth 100000 in
set_option maxHeartbeats 8000000 in
theorem spy_region {Q : Exit → Act → World → Prop} {id : Nat} (w0 : World) (g h : Nat) (p q : Pl) (t u : Tm) (la lb nl : Bool) {s0 s1 s4 s5 s6 s7 s8 s9 s10 s11 s12 s13 s14 s15 s16 s17 s18 s19 s20 s21 s22 s23 s24 s25 s26 s27 s28 s29 s30 s31 s32 s33 s34 s35 s36 s37 s38 s39 s40 s41 s42 s43 s44 s45 s46 s47 s48 s49 s50 s51 s52 s53 s54 s55 s56 s57 s58 s59 s60 s61 s62 s63 s64 s65 s66 s67 s68 : Value} (hx2 : w0.heap[g]? = some (tmO p t)) (hx3 : w0.heap[h]? = some (tmO q u)) (hkk : t.kind = u.kind) (hla : leafT t = la) (hlb : leafT u = lb) (hnl : (la != lb) = nl)
    (hend : ∀ (w' : World), Chg (fun k => False ∨ False) w0 w' → Q .normal { tmps := (s0 :: s1 :: (.pointer (some ⟨g, 0, none⟩) : Value) :: (.pointer (some ⟨h, 0, none⟩) : Value) :: s4 :: s5 :: (.pointer (some ⟨g, 0, none⟩) : Value) :: (.int .i64 t.kind : Value) :: (.pointer (some ⟨h, 0, none⟩) : Value) :: (.int .i64 u.kind : Value) :: (.bool false : Value) :: (.bool false : Value) :: (tmV p t : Value) :: (.bool la : Value) :: (tmV q u : Value) :: (.bool lb : Value) :: (.bool nl : Value) :: (.bool nl : Value) :: s18 :: s19 :: s20 :: s21 :: s22 :: s23 :: s24 :: s25 :: s26 :: s27 :: s28 :: s29 :: s30 :: s31 :: s32 :: s33 :: s34 :: s35 :: s36 :: s37 :: s38 :: s39 :: s40 :: s41 :: s42 :: s43 :: s44 :: s45 :: s46 :: s47 :: s48 :: s49 :: s50 :: s51 :: s52 :: s53 :: s54 :: s55 :: s56 :: s57 :: s58 :: s59 :: s60 :: s61 :: s62 :: s63 :: s64 :: s65 :: s66 :: s67 :: s68 :: ([] : List Value)).toArray, defers := [] } w') :
    (Code.region id spn_ops.toArray true).wp Try.prog Q { tmps := (s0 :: s1 :: (.pointer (some ⟨g, 0, none⟩) : Value) :: (.pointer (some ⟨h, 0, none⟩) : Value) :: s4 :: s5 :: s6 :: s7 :: s8 :: s9 :: s10 :: s11 :: s12 :: s13 :: s14 :: s15 :: s16 :: s17 :: s18 :: s19 :: s20 :: s21 :: s22 :: s23 :: s24 :: s25 :: s26 :: s27 :: s28 :: s29 :: s30 :: s31 :: s32 :: s33 :: s34 :: s35 :: s36 :: s37 :: s38 :: s39 :: s40 :: s41 :: s42 :: s43 :: s44 :: s45 :: s46 :: s47 :: s48 :: s49 :: s50 :: s51 :: s52 :: s53 :: s54 :: s55 :: s56 :: s57 :: s58 :: s59 :: s60 :: s61 :: s62 :: s63 :: s64 :: s65 :: s66 :: s67 :: s68 :: ([] : List Value)).toArray, defers := [] } w0 := by
  refine wp_region_est (by kernel_rfl) (est2 0 0 (fun _ => False) (fun _ => False)) spy_C (spy_F w0 g h p q t u la lb nl) (est2_dis (fun _ h _ => h)) (est2_range (fun _ h => h.elim) (fun _ h => h.elim)) (by rfl) (by kernel_rfl) (spy_obs w0.drew g h p q t u la lb nl hx2 hx3 hkk hla hlb hnl _ _ rfl rfl) ?_
  intro a w' O hd hs hb hf hf2 ha hsame
  have hx : ∀ (qi : Nat) (qv : Value), nwB spn_ops.toArray qi = true → (s0 :: s1 :: (.pointer (some ⟨g, 0, none⟩) : Value) :: (.pointer (some ⟨h, 0, none⟩) : Value) :: s4 :: s5 :: s6 :: s7 :: s8 :: s9 :: s10 :: s11 :: s12 :: s13 :: s14 :: s15 :: s16 :: s17 :: s18 :: s19 :: s20 :: s21 :: s22 :: s23 :: s24 :: s25 :: s26 :: s27 :: s28 :: s29 :: s30 :: s31 :: s32 :: s33 :: s34 :: s35 :: s36 :: s37 :: s38 :: s39 :: s40 :: s41 :: s42 :: s43 :: s44 :: s45 :: s46 :: s47 :: s48 :: s49 :: s50 :: s51 :: s52 :: s53 :: s54 :: s55 :: s56 :: s57 :: s58 :: s59 :: s60 :: s61 :: s62 :: s63 :: s64 :: s65 :: s66 :: s67 :: s68 :: ([] : List Value)).toArray.getD qi undef = qv → a.tmps.getD qi undef = qv := fun qi qv h e => (hsame qi (nwB.spec h)).trans e
  have x0 := hx 0 s0 (by kernel_rfl) rfl
  have x1 := hx 1 s1 (by kernel_rfl) rfl
  have x2 := hx 2 (.pointer (some ⟨g, 0, none⟩)) (by kernel_rfl) rfl
  have x3 := hx 3 (.pointer (some ⟨h, 0, none⟩)) (by kernel_rfl) rfl
  have x4 := hx 4 s4 (by kernel_rfl) rfl
  have x5 := hx 5 s5 (by kernel_rfl) rfl
  have x6 : a.tmps.getD 6 undef = .pointer (some ⟨g, 0, none⟩) := (hf 0 _ 6 rfl rfl (by decide)).1
  have x7 : a.tmps.getD 7 undef = .int .i64 t.kind := (hf 1 _ 7 rfl rfl (by decide)).1
  have x8 : a.tmps.getD 8 undef = .pointer (some ⟨h, 0, none⟩) := (hf 2 _ 8 rfl rfl (by decide)).1
  have x9 : a.tmps.getD 9 undef = .int .i64 u.kind := (hf 3 _ 9 rfl rfl (by decide)).1
  have x10 : a.tmps.getD 10 undef = .bool false := (hf 4 _ 10 rfl rfl (by decide)).1
  have x11 : a.tmps.getD 11 undef = .bool false := (hf 5 _ 11 rfl rfl (by decide)).1
  have x12 : a.tmps.getD 12 undef = tmV p t := (hf 6 _ 12 rfl rfl (by decide)).1
  have x13 : a.tmps.getD 13 undef = .bool la := (hf 7 _ 13 rfl rfl (by decide)).1
  have x14 : a.tmps.getD 14 undef = tmV q u := (hf 8 _ 14 rfl rfl (by decide)).1
  have x15 : a.tmps.getD 15 undef = .bool lb := (hf 9 _ 15 rfl rfl (by decide)).1
  have x16 : a.tmps.getD 16 undef = .bool nl := (hf 10 _ 16 rfl rfl (by decide)).1
  have x17 : a.tmps.getD 17 undef = .bool nl := (hf 11 _ 17 rfl rfl (by decide)).1
  have x18 := hx 18 s18 (by kernel_rfl) rfl
  have x19 := hx 19 s19 (by kernel_rfl) rfl
  have x20 := hx 20 s20 (by kernel_rfl) rfl
  have x21 := hx 21 s21 (by kernel_rfl) rfl
  have x22 := hx 22 s22 (by kernel_rfl) rfl
  have x23 := hx 23 s23 (by kernel_rfl) rfl
  have x24 := hx 24 s24 (by kernel_rfl) rfl
  have x25 := hx 25 s25 (by kernel_rfl) rfl
  have x26 := hx 26 s26 (by kernel_rfl) rfl
  have x27 := hx 27 s27 (by kernel_rfl) rfl
  have x28 := hx 28 s28 (by kernel_rfl) rfl
  have x29 := hx 29 s29 (by kernel_rfl) rfl
  have x30 := hx 30 s30 (by kernel_rfl) rfl
  have x31 := hx 31 s31 (by kernel_rfl) rfl
  have x32 := hx 32 s32 (by kernel_rfl) rfl
  have x33 := hx 33 s33 (by kernel_rfl) rfl
  have x34 := hx 34 s34 (by kernel_rfl) rfl
  have x35 := hx 35 s35 (by kernel_rfl) rfl
  have x36 := hx 36 s36 (by kernel_rfl) rfl
  have x37 := hx 37 s37 (by kernel_rfl) rfl
  have x38 := hx 38 s38 (by kernel_rfl) rfl
  have x39 := hx 39 s39 (by kernel_rfl) rfl
  have x40 := hx 40 s40 (by kernel_rfl) rfl
  have x41 := hx 41 s41 (by kernel_rfl) rfl
  have x42 := hx 42 s42 (by kernel_rfl) rfl
  have x43 := hx 43 s43 (by kernel_rfl) rfl
  have x44 := hx 44 s44 (by kernel_rfl) rfl
  have x45 := hx 45 s45 (by kernel_rfl) rfl
  have x46 := hx 46 s46 (by kernel_rfl) rfl
  have x47 := hx 47 s47 (by kernel_rfl) rfl
  have x48 := hx 48 s48 (by kernel_rfl) rfl
  have x49 := hx 49 s49 (by kernel_rfl) rfl
  have x50 := hx 50 s50 (by kernel_rfl) rfl
  have x51 := hx 51 s51 (by kernel_rfl) rfl
  have x52 := hx 52 s52 (by kernel_rfl) rfl
  have x53 := hx 53 s53 (by kernel_rfl) rfl
  have x54 := hx 54 s54 (by kernel_rfl) rfl
  have x55 := hx 55 s55 (by kernel_rfl) rfl
  have x56 := hx 56 s56 (by kernel_rfl) rfl
  have x57 := hx 57 s57 (by kernel_rfl) rfl
  have x58 := hx 58 s58 (by kernel_rfl) rfl
  have x59 := hx 59 s59 (by kernel_rfl) rfl
  have x60 := hx 60 s60 (by kernel_rfl) rfl
  have x61 := hx 61 s61 (by kernel_rfl) rfl
  have x62 := hx 62 s62 (by kernel_rfl) rfl
  have x63 := hx 63 s63 (by kernel_rfl) rfl
  have x64 := hx 64 s64 (by kernel_rfl) rfl
  have x65 := hx 65 s65 (by kernel_rfl) rfl
  have x66 := hx 66 s66 (by kernel_rfl) rfl
  have x67 := hx 67 s67 (by kernel_rfl) rfl
  have x68 := hx 68 s68 (by kernel_rfl) rfl
  have hl : a.tmps = (s0 :: s1 :: (.pointer (some ⟨g, 0, none⟩) : Value) :: (.pointer (some ⟨h, 0, none⟩) : Value) :: s4 :: s5 :: (.pointer (some ⟨g, 0, none⟩) : Value) :: (.int .i64 t.kind : Value) :: (.pointer (some ⟨h, 0, none⟩) : Value) :: (.int .i64 u.kind : Value) :: (.bool false : Value) :: (.bool false : Value) :: (tmV p t : Value) :: (.bool la : Value) :: (tmV q u : Value) :: (.bool lb : Value) :: (.bool nl : Value) :: (.bool nl : Value) :: s18 :: s19 :: s20 :: s21 :: s22 :: s23 :: s24 :: s25 :: s26 :: s27 :: s28 :: s29 :: s30 :: s31 :: s32 :: s33 :: s34 :: s35 :: s36 :: s37 :: s38 :: s39 :: s40 :: s41 :: s42 :: s43 :: s44 :: s45 :: s46 :: s47 :: s48 :: s49 :: s50 :: s51 :: s52 :: s53 :: s54 :: s55 :: s56 :: s57 :: s58 :: s59 :: s60 :: s61 :: s62 :: s63 :: s64 :: s65 :: s66 :: s67 :: s68 :: ([] : List Value)).toArray := by
    have h := lit a.tmps 69 hs
    have e : ((List.range 69).map (fun i => a.tmps.getD i undef)).toArray = ((a.tmps.getD 0 undef : Value) :: (a.tmps.getD 1 undef : Value) :: (a.tmps.getD 2 undef : Value) :: (a.tmps.getD 3 undef : Value) :: (a.tmps.getD 4 undef : Value) :: (a.tmps.getD 5 undef : Value) :: (a.tmps.getD 6 undef : Value) :: (a.tmps.getD 7 undef : Value) :: (a.tmps.getD 8 undef : Value) :: (a.tmps.getD 9 undef : Value) :: (a.tmps.getD 10 undef : Value) :: (a.tmps.getD 11 undef : Value) :: (a.tmps.getD 12 undef : Value) :: (a.tmps.getD 13 undef : Value) :: (a.tmps.getD 14 undef : Value) :: (a.tmps.getD 15 undef : Value) :: (a.tmps.getD 16 undef : Value) :: (a.tmps.getD 17 undef : Value) :: (a.tmps.getD 18 undef : Value) :: (a.tmps.getD 19 undef : Value) :: (a.tmps.getD 20 undef : Value) :: (a.tmps.getD 21 undef : Value) :: (a.tmps.getD 22 undef : Value) :: (a.tmps.getD 23 undef : Value) :: (a.tmps.getD 24 undef : Value) :: (a.tmps.getD 25 undef : Value) :: (a.tmps.getD 26 undef : Value) :: (a.tmps.getD 27 undef : Value) :: (a.tmps.getD 28 undef : Value) :: (a.tmps.getD 29 undef : Value) :: (a.tmps.getD 30 undef : Value) :: (a.tmps.getD 31 undef : Value) :: (a.tmps.getD 32 undef : Value) :: (a.tmps.getD 33 undef : Value) :: (a.tmps.getD 34 undef : Value) :: (a.tmps.getD 35 undef : Value) :: (a.tmps.getD 36 undef : Value) :: (a.tmps.getD 37 undef : Value) :: (a.tmps.getD 38 undef : Value) :: (a.tmps.getD 39 undef : Value) :: (a.tmps.getD 40 undef : Value) :: (a.tmps.getD 41 undef : Value) :: (a.tmps.getD 42 undef : Value) :: (a.tmps.getD 43 undef : Value) :: (a.tmps.getD 44 undef : Value) :: (a.tmps.getD 45 undef : Value) :: (a.tmps.getD 46 undef : Value) :: (a.tmps.getD 47 undef : Value) :: (a.tmps.getD 48 undef : Value) :: (a.tmps.getD 49 undef : Value) :: (a.tmps.getD 50 undef : Value) :: (a.tmps.getD 51 undef : Value) :: (a.tmps.getD 52 undef : Value) :: (a.tmps.getD 53 undef : Value) :: (a.tmps.getD 54 undef : Value) :: (a.tmps.getD 55 undef : Value) :: (a.tmps.getD 56 undef : Value) :: (a.tmps.getD 57 undef : Value) :: (a.tmps.getD 58 undef : Value) :: (a.tmps.getD 59 undef : Value) :: (a.tmps.getD 60 undef : Value) :: (a.tmps.getD 61 undef : Value) :: (a.tmps.getD 62 undef : Value) :: (a.tmps.getD 63 undef : Value) :: (a.tmps.getD 64 undef : Value) :: (a.tmps.getD 65 undef : Value) :: (a.tmps.getD 66 undef : Value) :: (a.tmps.getD 67 undef : Value) :: (a.tmps.getD 68 undef : Value) :: ([] : List Value)).toArray := rfl
    rw [e, x0, x1, x2, x3, x4, x5, x6, x7, x8, x9, x10, x11, x12, x13, x14, x15, x16, x17, x18, x19, x20, x21, x22, x23, x24, x25, x26, x27, x28, x29, x30, x31, x32, x33, x34, x35, x36, x37, x38, x39, x40, x41, x42, x43, x44, x45, x46, x47, x48, x49, x50, x51, x52, x53, x54, x55, x56, x57, x58, x59, x60, x61, x62, x63, x64, x65, x66, x67, x68] at h
    exact h
  obtain ⟨tmps, defers⟩ := a
  obtain rfl : defers = [] := hd
  have hl' : tmps = _ := hl
  rw [hl']
  have hb' := est2_chg hb
  exact hend w' ⟨hb'.os, hb'.tape, hb'.output, hb'.size, hb'.block⟩

theorem below_undrew {w0 w : World} (h : Below w0.drew.heap.size w0.drew w) : Below w0.heap.size w0 w := Below.trans (below_drew (Below.refl _ _)) h

def spk_ops : List Oper := [
  { dst := some 56, op := Go.Op.fieldAddr 28 (Go.Operand.tmp 2) 5, type := 0, pos := "term.go:264", after := #[], guard := none },
  { dst := some 57, op := Go.Op.load 26 (Go.Operand.tmp 56), type := 26, pos := "term.go:264", after := #[{ on := 0, ground := Go.Ground.data }], guard := none },
  { dst := some 58, op := Go.Op.move (Go.Operand.tmp 5), type := 3, pos := "term.go:264", after := #[], guard := none },
  { dst := some 59, op := Go.Op.indexAddr 26 (Go.Operand.tmp 57) (Go.Operand.tmp 58), type := 0, pos := "term.go:264", after := #[{ on := 1, ground := Go.Ground.data }, { on := 2, ground := Go.Ground.data }], guard := none },
  { dst := some 60, op := Go.Op.load 28 (Go.Operand.tmp 59), type := 28, pos := "term.go:264", after := #[{ on := 3, ground := Go.Ground.data }], guard := none },
  { dst := some 61, op := Go.Op.fieldAddr 28 (Go.Operand.tmp 3) 5, type := 0, pos := "term.go:264", after := #[], guard := none },
  { dst := some 62, op := Go.Op.load 26 (Go.Operand.tmp 61), type := 26, pos := "term.go:264", after := #[{ on := 5, ground := Go.Ground.data }], guard := none },
  { dst := some 63, op := Go.Op.move (Go.Operand.tmp 5), type := 3, pos := "term.go:264", after := #[], guard := none },
  { dst := some 64, op := Go.Op.indexAddr 26 (Go.Operand.tmp 62) (Go.Operand.tmp 63), type := 0, pos := "term.go:264", after := #[{ on := 6, ground := Go.Ground.data }, { on := 7, ground := Go.Ground.data }], guard := none },
  { dst := some 65, op := Go.Op.load 28 (Go.Operand.tmp 64), type := 28, pos := "term.go:264", after := #[{ on := 8, ground := Go.Ground.data }], guard := none },
  { dst := some 66, op := Go.Op.call { callee := Go.Callee.value (Go.Operand.func 85), args := #[Go.Operand.tmp 60, Go.Operand.tmp 65], argTypes := #[28, 28] }, type := 4, pos := "term.go:264", after := #[{ on := 4, ground := Go.Ground.data }, { on := 9, ground := Go.Ground.data }], guard := none },
  { dst := some 67, op := Go.Op.unOp Go.UnOp.not 4 (Go.Operand.tmp 66), type := 4, pos := "term.go:264", after := #[{ on := 10, ground := Go.Ground.data }], guard := none }]
def spk_F (w0 : World) (g h i : Nat) (p q : Pl) (t u : Tm) (ga oa gd od m1 m2 : Nat) (qx qy : Pl) (x y : Tm) (r : Bool) : Nat → (Nat → Value) → Value → World → (Nat → Prop) → Prop := fun rix => match rix with
  | 0 => fun _ v _ _ => v = .pointer (some ⟨g, 7, none⟩)
  | 1 => fun _ v _ _ => v = .slice (some ⟨ga, oa, none⟩) m1 p.e
  | 2 => fun _ v _ _ => v = .int .i64 i
  | 3 => fun _ v _ _ => v = .pointer (some ⟨ga, oa + i * 8, none⟩)
  | 4 => fun _ v _ _ => v = tmV qx x
  | 5 => fun _ v _ _ => v = .pointer (some ⟨h, 7, none⟩)
  | 6 => fun _ v _ _ => v = .slice (some ⟨gd, od, none⟩) m2 q.e
  | 7 => fun _ v _ _ => v = .int .i64 i
  | 8 => fun _ v _ _ => v = .pointer (some ⟨gd, od + i * 8, none⟩)
  | 9 => fun _ v _ _ => v = tmV qy y
  | 10 => fun _ v _ _ => v = .bool r
  | 11 => fun _ v _ _ => v = .bool (!r)
  | _ => fun _ _ _ _ => True
def spk_C : Nat → List Nat := fun rix => match rix with
  | _ => []
theorem spk_nw2 : nwB spk_ops.toArray 2 = true := by kernel_rfl
theorem spk_nw3 : nwB spk_ops.toArray 3 = true := by kernel_rfl
theorem spk_nw5 : nwB spk_ops.toArray 5 = true := by kernel_rfl
set_option maxRecDepth 100000 in
set_option maxHeartbeats 8000000 in
theorem spk_obs (w0 : World) (g h i : Nat) (p q : Pl) (t u : Tm) (ga oa gd od m1 m2 : Nat) (qx qy : Pl) (x y : Tm) (r : Bool) (hx2 : w0.heap[g]? = some (tmO p t)) (hx3 : w0.heap[h]? = some (tmO q u)) (hpK : p.K = some ⟨ga, oa, none⟩) (hqK : q.K = some ⟨gd, od, none⟩) (hm1 : t.kids.length = m1) (hm2 : u.kids.length = m2) (hga : ga < w0.heap.size) (hgd : gd < w0.heap.size) (him1 : i < m1) (him2 : i < m2) (hpe : m1 ≤ 9223372036854775807) (hqe : m2 ≤ 9223372036854775807) (him9 : i ≤ 3) (ca0 : w0.cell? ⟨ga, oa + i * 8, none⟩ = some (.int .i64 x.kind)) (ca1 : w0.cell? ⟨ga, oa + i * 8 + 1, none⟩ = some (.int .i64 x.num)) (ca2 : w0.cell? ⟨ga, oa + i * 8 + 2, none⟩ = some (.string x.name)) (ca3 : w0.cell? ⟨ga, oa + i * 8 + 3, none⟩ = some (.int .i64 x.lv.kind)) (ca4 : w0.cell? ⟨ga, oa + i * 8 + 4, none⟩ = some (.int .i64 x.lv.num)) (ca5 : w0.cell? ⟨ga, oa + i * 8 + 5, none⟩ = some (.slice qx.A x.lv.kids.length qx.c)) (ca6 : w0.cell? ⟨ga, oa + i * 8 + 6, none⟩ = some (.slice qx.B x.ls.length qx.d)) (ca7 : w0.cell? ⟨ga, oa + i * 8 + 7, none⟩ = some (.slice qx.K x.kids.length qx.e)) (cb0 : w0.cell? ⟨gd, od + i * 8, none⟩ = some (.int .i64 y.kind)) (cb1 : w0.cell? ⟨gd, od + i * 8 + 1, none⟩ = some (.int .i64 y.num)) (cb2 : w0.cell? ⟨gd, od + i * 8 + 2, none⟩ = some (.string y.name)) (cb3 : w0.cell? ⟨gd, od + i * 8 + 3, none⟩ = some (.int .i64 y.lv.kind)) (cb4 : w0.cell? ⟨gd, od + i * 8 + 4, none⟩ = some (.int .i64 y.lv.num)) (cb5 : w0.cell? ⟨gd, od + i * 8 + 5, none⟩ = some (.slice qy.A y.lv.kids.length qy.c)) (cb6 : w0.cell? ⟨gd, od + i * 8 + 6, none⟩ = some (.slice qy.B y.ls.length qy.d)) (cb7 : w0.cell? ⟨gd, od + i * 8 + 7, none⟩ = some (.slice qy.K y.kids.length qy.e)) (hIH : ∀ w, Below w0.heap.size w0 w → Calls Try.prog 85 #[tmV qx x, tmV qy y] w fun e w' => e = .returned (.bool r) ∧ Below w.heap.size w w') (Q : Exit → Act → World → Prop) (a0 : Act) (hi2 : a0.tmps.getD 2 undef = .pointer (some ⟨g, 0, none⟩)) (hi3 : a0.tmps.getD 3 undef = .pointer (some ⟨h, 0, none⟩)) (hi5 : a0.tmps.getD 5 undef = .int .i64 i) :
    ObsE Try.prog spk_ops.toArray Q (est2 0 0 (fun _ => False) (fun _ => False)) spk_C (spk_F w0 g h i p q t u ga oa gd od m1 m2 qx qy x y r) a0 w0 spk_ops.toArray.toList 0 := by
  have nw2 := spk_nw2
  have nw3 := spk_nw3
  have nw5 := spk_nw5
  refine ⟨?_, ?_, ?_, ?_, ?_, ?_, ?_, ?_, ?_, ?_, ?_, ?_, trivial⟩
  · refine ⟨⟨fun τ => stableE_det _, leans_not⟩, ?_⟩
    intro a w O hk
    have e2 : a.eval (.tmp 2) = .pointer (some ⟨g, 0, none⟩) := (hk.init 2 (initialB_of_nw nw2)).trans hi2
    have x2 := hk.world.still hx2 (fun ⟨_, h⟩ => h.elim And.right And.right)
    have x3 := hk.world.still hx3 (fun ⟨_, h⟩ => h.elim And.right And.right)
    have hcc : ∀ j, w.cell? ⟨ga, j, none⟩ = w0.cell? ⟨ga, j, none⟩ := fun j => cell_same ((hk.world.below (fun k ⟨_, h⟩ => h.elim (fun h => h.2.elim) fun h => h.2.elim) (Nat.le_refl _)).block _ hga)
    have hcd : ∀ j, w.cell? ⟨gd, j, none⟩ = w0.cell? ⟨gd, j, none⟩ := fun j => cell_same ((hk.world.below (fun k ⟨_, h⟩ => h.elim (fun h => h.2.elim) fun h => h.2.elim) (Nat.le_refl _)).block _ hgd)
    exact obE_run (wanted_none rfl) (by unfold execOp; simp only []; rw [e2]; go_simp) rfl
  · refine ⟨⟨fun τ => stableE_det _, leans_not⟩, ?_⟩
    intro a w O hk
    have e56 : a.eval (.tmp 56) = .pointer (some ⟨g, 7, none⟩) := hk.fact 0 _ 56 rfl rfl rfl rfl
    have x2 := hk.world.still hx2 (fun ⟨_, h⟩ => h.elim And.right And.right)
    have x3 := hk.world.still hx3 (fun ⟨_, h⟩ => h.elim And.right And.right)
    have hcc : ∀ j, w.cell? ⟨ga, j, none⟩ = w0.cell? ⟨ga, j, none⟩ := fun j => cell_same ((hk.world.below (fun k ⟨_, h⟩ => h.elim (fun h => h.2.elim) fun h => h.2.elim) (Nat.le_refl _)).block _ hga)
    have hcd : ∀ j, w.cell? ⟨gd, j, none⟩ = w0.cell? ⟨gd, j, none⟩ := fun j => cell_same ((hk.world.below (fun k ⟨_, h⟩ => h.elim (fun h => h.2.elim) fun h => h.2.elim) (Nat.le_refl _)).block _ hgd)
    obtain ⟨p0, p1, p2, p3, p4, p5, p6, p7⟩ := row8 x2
    rw [hpK, hm1] at p7
    exact obE_run (wanted_none rfl) (by unfold execOp; simp only []; rw [e56]; go_simp) rfl
  · refine ⟨⟨fun τ => stableE_det _, leans_not⟩, ?_⟩
    intro a w O hk
    have e5 : a.eval (.tmp 5) = .int .i64 i := (hk.init 5 (initialB_of_nw nw5)).trans hi5
    exact toE (ob_move rfl e5 (wanted_none rfl) rfl)
  · refine ⟨⟨fun τ => stableE_det _, leans_not⟩, ?_⟩
    intro a w O hk
    have e57 : a.eval (.tmp 57) = .slice (some ⟨ga, oa, none⟩) m1 p.e := hk.fact 1 _ 57 rfl rfl rfl rfl
    have e58 : a.eval (.tmp 58) = .int .i64 i := hk.fact 2 _ 58 rfl rfl rfl rfl
    have x2 := hk.world.still hx2 (fun ⟨_, h⟩ => h.elim And.right And.right)
    have x3 := hk.world.still hx3 (fun ⟨_, h⟩ => h.elim And.right And.right)
    have hcc : ∀ j, w.cell? ⟨ga, j, none⟩ = w0.cell? ⟨ga, j, none⟩ := fun j => cell_same ((hk.world.below (fun k ⟨_, h⟩ => h.elim (fun h => h.2.elim) fun h => h.2.elim) (Nat.le_refl _)).block _ hga)
    have hcd : ∀ j, w.cell? ⟨gd, j, none⟩ = w0.cell? ⟨gd, j, none⟩ := fun j => cell_same ((hk.world.below (fun k ⟨_, h⟩ => h.elim (fun h => h.2.elim) fun h => h.2.elim) (Nat.le_refl _)).block _ hgd)
    exact obE_run (wanted_none rfl) (by unfold execOp; simp only []; rw [e57, e58]; go_simp) rfl
  · refine ⟨⟨fun τ => stableE_det _, leans_not⟩, ?_⟩
    intro a w O hk
    have e59 : a.eval (.tmp 59) = .pointer (some ⟨ga, oa + i * 8, none⟩) := hk.fact 3 _ 59 rfl rfl rfl rfl
    have x2 := hk.world.still hx2 (fun ⟨_, h⟩ => h.elim And.right And.right)
    have x3 := hk.world.still hx3 (fun ⟨_, h⟩ => h.elim And.right And.right)
    have hcc : ∀ j, w.cell? ⟨ga, j, none⟩ = w0.cell? ⟨ga, j, none⟩ := fun j => cell_same ((hk.world.below (fun k ⟨_, h⟩ => h.elim (fun h => h.2.elim) fun h => h.2.elim) (Nat.le_refl _)).block _ hga)
    have hcd : ∀ j, w.cell? ⟨gd, j, none⟩ = w0.cell? ⟨gd, j, none⟩ := fun j => cell_same ((hk.world.below (fun k ⟨_, h⟩ => h.elim (fun h => h.2.elim) fun h => h.2.elim) (Nat.le_refl _)).block _ hgd)
    have r0 := (hcc _).trans ca0
    have r1 := (hcc _).trans ca1
    have r2 := (hcc _).trans ca2
    have r3 := (hcc _).trans ca3
    have r4 := (hcc _).trans ca4
    have r5 := (hcc _).trans ca5
    have r6 := (hcc _).trans ca6
    have r7 := (hcc _).trans ca7
    exact obE_run (wanted_none rfl) (by unfold execOp; simp only []; rw [e59]; go_simp; rfl) rfl
  · refine ⟨⟨fun τ => stableE_det _, leans_not⟩, ?_⟩
    intro a w O hk
    have e3 : a.eval (.tmp 3) = .pointer (some ⟨h, 0, none⟩) := (hk.init 3 (initialB_of_nw nw3)).trans hi3
    have x2 := hk.world.still hx2 (fun ⟨_, h⟩ => h.elim And.right And.right)
    have x3 := hk.world.still hx3 (fun ⟨_, h⟩ => h.elim And.right And.right)
    have hcc : ∀ j, w.cell? ⟨ga, j, none⟩ = w0.cell? ⟨ga, j, none⟩ := fun j => cell_same ((hk.world.below (fun k ⟨_, h⟩ => h.elim (fun h => h.2.elim) fun h => h.2.elim) (Nat.le_refl _)).block _ hga)
    have hcd : ∀ j, w.cell? ⟨gd, j, none⟩ = w0.cell? ⟨gd, j, none⟩ := fun j => cell_same ((hk.world.below (fun k ⟨_, h⟩ => h.elim (fun h => h.2.elim) fun h => h.2.elim) (Nat.le_refl _)).block _ hgd)
    exact obE_run (wanted_none rfl) (by unfold execOp; simp only []; rw [e3]; go_simp) rfl
  · refine ⟨⟨fun τ => stableE_det _, leans_not⟩, ?_⟩
    intro a w O hk
    have e61 : a.eval (.tmp 61) = .pointer (some ⟨h, 7, none⟩) := hk.fact 5 _ 61 rfl rfl rfl rfl
    have x2 := hk.world.still hx2 (fun ⟨_, h⟩ => h.elim And.right And.right)
    have x3 := hk.world.still hx3 (fun ⟨_, h⟩ => h.elim And.right And.right)
    have hcc : ∀ j, w.cell? ⟨ga, j, none⟩ = w0.cell? ⟨ga, j, none⟩ := fun j => cell_same ((hk.world.below (fun k ⟨_, h⟩ => h.elim (fun h => h.2.elim) fun h => h.2.elim) (Nat.le_refl _)).block _ hga)
    have hcd : ∀ j, w.cell? ⟨gd, j, none⟩ = w0.cell? ⟨gd, j, none⟩ := fun j => cell_same ((hk.world.below (fun k ⟨_, h⟩ => h.elim (fun h => h.2.elim) fun h => h.2.elim) (Nat.le_refl _)).block _ hgd)
    obtain ⟨p0, p1, p2, p3, p4, p5, p6, p7⟩ := row8 x3
    rw [hqK, hm2] at p7
    exact obE_run (wanted_none rfl) (by unfold execOp; simp only []; rw [e61]; go_simp) rfl
  · refine ⟨⟨fun τ => stableE_det _, leans_not⟩, ?_⟩
    intro a w O hk
    have e5 : a.eval (.tmp 5) = .int .i64 i := (hk.init 5 (initialB_of_nw nw5)).trans hi5
    exact toE (ob_move rfl e5 (wanted_none rfl) rfl)
  · refine ⟨⟨fun τ => stableE_det _, leans_not⟩, ?_⟩
    intro a w O hk
    have e62 : a.eval (.tmp 62) = .slice (some ⟨gd, od, none⟩) m2 q.e := hk.fact 6 _ 62 rfl rfl rfl rfl
    have e63 : a.eval (.tmp 63) = .int .i64 i := hk.fact 7 _ 63 rfl rfl rfl rfl
    have x2 := hk.world.still hx2 (fun ⟨_, h⟩ => h.elim And.right And.right)
    have x3 := hk.world.still hx3 (fun ⟨_, h⟩ => h.elim And.right And.right)
    have hcc : ∀ j, w.cell? ⟨ga, j, none⟩ = w0.cell? ⟨ga, j, none⟩ := fun j => cell_same ((hk.world.below (fun k ⟨_, h⟩ => h.elim (fun h => h.2.elim) fun h => h.2.elim) (Nat.le_refl _)).block _ hga)
    have hcd : ∀ j, w.cell? ⟨gd, j, none⟩ = w0.cell? ⟨gd, j, none⟩ := fun j => cell_same ((hk.world.below (fun k ⟨_, h⟩ => h.elim (fun h => h.2.elim) fun h => h.2.elim) (Nat.le_refl _)).block _ hgd)
    exact obE_run (wanted_none rfl) (by unfold execOp; simp only []; rw [e62, e63]; go_simp) rfl
  · refine ⟨⟨fun τ => stableE_det _, leans_not⟩, ?_⟩
    intro a w O hk
    have e64 : a.eval (.tmp 64) = .pointer (some ⟨gd, od + i * 8, none⟩) := hk.fact 8 _ 64 rfl rfl rfl rfl
    have x2 := hk.world.still hx2 (fun ⟨_, h⟩ => h.elim And.right And.right)
    have x3 := hk.world.still hx3 (fun ⟨_, h⟩ => h.elim And.right And.right)
    have hcc : ∀ j, w.cell? ⟨ga, j, none⟩ = w0.cell? ⟨ga, j, none⟩ := fun j => cell_same ((hk.world.below (fun k ⟨_, h⟩ => h.elim (fun h => h.2.elim) fun h => h.2.elim) (Nat.le_refl _)).block _ hga)
    have hcd : ∀ j, w.cell? ⟨gd, j, none⟩ = w0.cell? ⟨gd, j, none⟩ := fun j => cell_same ((hk.world.below (fun k ⟨_, h⟩ => h.elim (fun h => h.2.elim) fun h => h.2.elim) (Nat.le_refl _)).block _ hgd)
    have r0 := (hcd _).trans cb0
    have r1 := (hcd _).trans cb1
    have r2 := (hcd _).trans cb2
    have r3 := (hcd _).trans cb3
    have r4 := (hcd _).trans cb4
    have r5 := (hcd _).trans cb5
    have r6 := (hcd _).trans cb6
    have r7 := (hcd _).trans cb7
    exact obE_run (wanted_none rfl) (by unfold execOp; simp only []; rw [e64]; go_simp; rfl) rfl
  · refine ⟨⟨fun τ => stableE_det _, leans_not⟩, ?_⟩
    intro a w O hk
    have e60 : a.eval (.tmp 60) = tmV qx x := hk.fact 4 _ 60 rfl rfl rfl rfl
    have e65 : a.eval (.tmp 65) = tmV qy y := hk.fact 9 _ 65 rfl rfl rfl rfl
    have x2 := hk.world.still hx2 (fun ⟨_, h⟩ => h.elim And.right And.right)
    have x3 := hk.world.still hx3 (fun ⟨_, h⟩ => h.elim And.right And.right)
    have hcc : ∀ j, w.cell? ⟨ga, j, none⟩ = w0.cell? ⟨ga, j, none⟩ := fun j => cell_same ((hk.world.below (fun k ⟨_, h⟩ => h.elim (fun h => h.2.elim) fun h => h.2.elim) (Nat.le_refl _)).block _ hga)
    have hcd : ∀ j, w.cell? ⟨gd, j, none⟩ = w0.cell? ⟨gd, j, none⟩ := fun j => cell_same ((hk.world.below (fun k ⟨_, h⟩ => h.elim (fun h => h.2.elim) fun h => h.2.elim) (Nat.le_refl _)).block _ hgd)
    exact obE_callV #[tmV qx x, tmV qy y] rfl rfl rfl rfl (by simp only [List.map_cons, List.map_nil]; rw [e60, e65]) (wanted_none rfl) (hIH w (hk.world.below (fun k ⟨_, h⟩ => h.elim (fun h => h.2.elim) fun h => h.2.elim) (Nat.le_refl _)))
  · refine ⟨⟨fun τ => stableE_det _, leans_not⟩, ?_⟩
    intro a w O hk
    have e66 : a.eval (.tmp 66) = .bool r := hk.fact 10 _ 66 rfl rfl rfl rfl
    have x2 := hk.world.still hx2 (fun ⟨_, h⟩ => h.elim And.right And.right)
    have x3 := hk.world.still hx3 (fun ⟨_, h⟩ => h.elim And.right And.right)
    have hcc : ∀ j, w.cell? ⟨ga, j, none⟩ = w0.cell? ⟨ga, j, none⟩ := fun j => cell_same ((hk.world.below (fun k ⟨_, h⟩ => h.elim (fun h => h.2.elim) fun h => h.2.elim) (Nat.le_refl _)).block _ hga)
    have hcd : ∀ j, w.cell? ⟨gd, j, none⟩ = w0.cell? ⟨gd, j, none⟩ := fun j => cell_same ((hk.world.below (fun k ⟨_, h⟩ => h.elim (fun h => h.2.elim) fun h => h.2.elim) (Nat.le_refl _)).block _ hgd)
    exact obE_run (wanted_none rfl) (by unfold execOp; simp only []; rw [e66]; go_simp) rfl
set_option maxRecDepth 100000 in
set_option maxHeartbeats 8000000 in
theorem spk_region {Q : Exit → Act → World → Prop} {id : Nat} (w0 : World) (g h i : Nat) (p q : Pl) (t u : Tm) (ga oa gd od m1 m2 : Nat) (qx qy : Pl) (x y : Tm) (r : Bool) {s0 s1 s4 s6 s7 s8 s9 s10 s11 s12 s13 s14 s15 s16 s17 s18 s19 s20 s21 s22 s23 s24 s25 s26 s27 s28 s29 s30 s31 s32 s33 s34 s35 s36 s37 s38 s39 s40 s41 s42 s43 s44 s45 s46 s47 s48 s49 s50 s51 s52 s53 s54 s55 s56 s57 s58 s59 s60 s61 s62 s63 s64 s65 s66 s67 s68 : Value} (hx2 : w0.heap[g]? = some (tmO p t)) (hx3 : w0.heap[h]? = some (tmO q u)) (hpK : p.K = some ⟨ga, oa, none⟩) (hqK : q.K = some ⟨gd, od, none⟩) (hm1 : t.kids.length = m1) (hm2 : u.kids.length = m2) (hga : ga < w0.heap.size) (hgd : gd < w0.heap.size) (him1 : i < m1) (him2 : i < m2) (hpe : m1 ≤ 9223372036854775807) (hqe : m2 ≤ 9223372036854775807) (him9 : i ≤ 3) (ca0 : w0.cell? ⟨ga, oa + i * 8, none⟩ = some (.int .i64 x.kind)) (ca1 : w0.cell? ⟨ga, oa + i * 8 + 1, none⟩ = some (.int .i64 x.num)) (ca2 : w0.cell? ⟨ga, oa + i * 8 + 2, none⟩ = some (.string x.name)) (ca3 : w0.cell? ⟨ga, oa + i * 8 + 3, none⟩ = some (.int .i64 x.lv.kind)) (ca4 : w0.cell? ⟨ga, oa + i * 8 + 4, none⟩ = some (.int .i64 x.lv.num)) (ca5 : w0.cell? ⟨ga, oa + i * 8 + 5, none⟩ = some (.slice qx.A x.lv.kids.length qx.c)) (ca6 : w0.cell? ⟨ga, oa + i * 8 + 6, none⟩ = some (.slice qx.B x.ls.length qx.d)) (ca7 : w0.cell? ⟨ga, oa + i * 8 + 7, none⟩ = some (.slice qx.K x.kids.length qx.e)) (cb0 : w0.cell? ⟨gd, od + i * 8, none⟩ = some (.int .i64 y.kind)) (cb1 : w0.cell? ⟨gd, od + i * 8 + 1, none⟩ = some (.int .i64 y.num)) (cb2 : w0.cell? ⟨gd, od + i * 8 + 2, none⟩ = some (.string y.name)) (cb3 : w0.cell? ⟨gd, od + i * 8 + 3, none⟩ = some (.int .i64 y.lv.kind)) (cb4 : w0.cell? ⟨gd, od + i * 8 + 4, none⟩ = some (.int .i64 y.lv.num)) (cb5 : w0.cell? ⟨gd, od + i * 8 + 5, none⟩ = some (.slice qy.A y.lv.kids.length qy.c)) (cb6 : w0.cell? ⟨gd, od + i * 8 + 6, none⟩ = some (.slice qy.B y.ls.length qy.d)) (cb7 : w0.cell? ⟨gd, od + i * 8 + 7, none⟩ = some (.slice qy.K y.kids.length qy.e)) (hIH : ∀ w, Below w0.heap.size w0 w → Calls Try.prog 85 #[tmV qx x, tmV qy y] w fun e w' => e = .returned (.bool r) ∧ Below w.heap.size w w')
    (hend : ∀ (w' : World), Chg (fun k => False ∨ False) w0 w' → Q .normal { tmps := (s0 :: s1 :: (.pointer (some ⟨g, 0, none⟩) : Value) :: (.pointer (some ⟨h, 0, none⟩) : Value) :: s4 :: (.int .i64 i : Value) :: s6 :: s7 :: s8 :: s9 :: s10 :: s11 :: s12 :: s13 :: s14 :: s15 :: s16 :: s17 :: s18 :: s19 :: s20 :: s21 :: s22 :: s23 :: s24 :: s25 :: s26 :: s27 :: s28 :: s29 :: s30 :: s31 :: s32 :: s33 :: s34 :: s35 :: s36 :: s37 :: s38 :: s39 :: s40 :: s41 :: s42 :: s43 :: s44 :: s45 :: s46 :: s47 :: s48 :: s49 :: s50 :: s51 :: s52 :: s53 :: s54 :: s55 :: (.pointer (some ⟨g, 7, none⟩) : Value) :: (.slice (some ⟨ga, oa, none⟩) m1 p.e : Value) :: (.int .i64 i : Value) :: (.pointer (some ⟨ga, oa + i * 8, none⟩) : Value) :: (tmV qx x : Value) :: (.pointer (some ⟨h, 7, none⟩) : Value) :: (.slice (some ⟨gd, od, none⟩) m2 q.e : Value) :: (.int .i64 i : Value) :: (.pointer (some ⟨gd, od + i * 8, none⟩) : Value) :: (tmV qy y : Value) :: (.bool r : Value) :: (.bool (!r) : Value) :: s68 :: ([] : List Value)).toArray, defers := [] } w') :
    (Code.region id spk_ops.toArray true).wp Try.prog Q { tmps := (s0 :: s1 :: (.pointer (some ⟨g, 0, none⟩) : Value) :: (.pointer (some ⟨h, 0, none⟩) : Value) :: s4 :: (.int .i64 i : Value) :: s6 :: s7 :: s8 :: s9 :: s10 :: s11 :: s12 :: s13 :: s14 :: s15 :: s16 :: s17 :: s18 :: s19 :: s20 :: s21 :: s22 :: s23 :: s24 :: s25 :: s26 :: s27 :: s28 :: s29 :: s30 :: s31 :: s32 :: s33 :: s34 :: s35 :: s36 :: s37 :: s38 :: s39 :: s40 :: s41 :: s42 :: s43 :: s44 :: s45 :: s46 :: s47 :: s48 :: s49 :: s50 :: s51 :: s52 :: s53 :: s54 :: s55 :: s56 :: s57 :: s58 :: s59 :: s60 :: s61 :: s62 :: s63 :: s64 :: s65 :: s66 :: s67 :: s68 :: ([] : List Value)).toArray, defers := [] } w0 := by
  refine wp_region_est (by kernel_rfl) (est2 0 0 (fun _ => False) (fun _ => False)) spk_C (spk_F w0 g h i p q t u ga oa gd od m1 m2 qx qy x y r) (est2_dis (fun _ h _ => h)) (est2_range (fun _ h => h.elim) (fun _ h => h.elim)) (by rfl) (by kernel_rfl) (spk_obs w0.drew g h i p q t u ga oa gd od m1 m2 qx qy x y r hx2 hx3 hpK hqK hm1 hm2 hga hgd him1 him2 hpe hqe him9 ca0 ca1 ca2 ca3 ca4 ca5 ca6 ca7 cb0 cb1 cb2 cb3 cb4 cb5 cb6 cb7 (fun w h => hIH w (below_undrew h)) _ _ rfl rfl rfl) ?_
  intro a w' O hd hs hb hf hf2 ha hsame
  have hx : ∀ (qi : Nat) (qv : Value), nwB spk_ops.toArray qi = true → (s0 :: s1 :: (.pointer (some ⟨g, 0, none⟩) : Value) :: (.pointer (some ⟨h, 0, none⟩) : Value) :: s4 :: (.int .i64 i : Value) :: s6 :: s7 :: s8 :: s9 :: s10 :: s11 :: s12 :: s13 :: s14 :: s15 :: s16 :: s17 :: s18 :: s19 :: s20 :: s21 :: s22 :: s23 :: s24 :: s25 :: s26 :: s27 :: s28 :: s29 :: s30 :: s31 :: s32 :: s33 :: s34 :: s35 :: s36 :: s37 :: s38 :: s39 :: s40 :: s41 :: s42 :: s43 :: s44 :: s45 :: s46 :: s47 :: s48 :: s49 :: s50 :: s51 :: s52 :: s53 :: s54 :: s55 :: s56 :: s57 :: s58 :: s59 :: s60 :: s61 :: s62 :: s63 :: s64 :: s65 :: s66 :: s67 :: s68 :: ([] : List Value)).toArray.getD qi undef = qv → a.tmps.getD qi undef = qv := fun qi qv h e => (hsame qi (nwB.spec h)).trans e
  have x0 := hx 0 s0 (by kernel_rfl) rfl
  have x1 := hx 1 s1 (by kernel_rfl) rfl
  have x2 := hx 2 (.pointer (some ⟨g, 0, none⟩)) (by kernel_rfl) rfl
  have x3 := hx 3 (.pointer (some ⟨h, 0, none⟩)) (by kernel_rfl) rfl
  have x4 := hx 4 s4 (by kernel_rfl) rfl
  have x5 := hx 5 (.int .i64 i) (by kernel_rfl) rfl
  have x6 := hx 6 s6 (by kernel_rfl) rfl
  have x7 := hx 7 s7 (by kernel_rfl) rfl
  have x8 := hx 8 s8 (by kernel_rfl) rfl
  have x9 := hx 9 s9 (by kernel_rfl) rfl
  have x10 := hx 10 s10 (by kernel_rfl) rfl
  have x11 := hx 11 s11 (by kernel_rfl) rfl
  have x12 := hx 12 s12 (by kernel_rfl) rfl
  have x13 := hx 13 s13 (by kernel_rfl) rfl
  have x14 := hx 14 s14 (by kernel_rfl) rfl
  have x15 := hx 15 s15 (by kernel_rfl) rfl
  have x16 := hx 16 s16 (by kernel_rfl) rfl
  have x17 := hx 17 s17 (by kernel_rfl) rfl
  have x18 := hx 18 s18 (by kernel_rfl) rfl
  have x19 := hx 19 s19 (by kernel_rfl) rfl
  have x20 := hx 20 s20 (by kernel_rfl) rfl
  have x21 := hx 21 s21 (by kernel_rfl) rfl
  have x22 := hx 22 s22 (by kernel_rfl) rfl
  have x23 := hx 23 s23 (by kernel_rfl) rfl
  have x24 := hx 24 s24 (by kernel_rfl) rfl
  have x25 := hx 25 s25 (by kernel_rfl) rfl
  have x26 := hx 26 s26 (by kernel_rfl) rfl
  have x27 := hx 27 s27 (by kernel_rfl) rfl
  have x28 := hx 28 s28 (by kernel_rfl) rfl
  have x29 := hx 29 s29 (by kernel_rfl) rfl
  have x30 := hx 30 s30 (by kernel_rfl) rfl
  have x31 := hx 31 s31 (by kernel_rfl) rfl
  have x32 := hx 32 s32 (by kernel_rfl) rfl
  have x33 := hx 33 s33 (by kernel_rfl) rfl
  have x34 := hx 34 s34 (by kernel_rfl) rfl
  have x35 := hx 35 s35 (by kernel_rfl) rfl
  have x36 := hx 36 s36 (by kernel_rfl) rfl
  have x37 := hx 37 s37 (by kernel_rfl) rfl
  have x38 := hx 38 s38 (by kernel_rfl) rfl
  have x39 := hx 39 s39 (by kernel_rfl) rfl
  have x40 := hx 40 s40 (by kernel_rfl) rfl
  have x41 := hx 41 s41 (by kernel_rfl) rfl
  have x42 := hx 42 s42 (by kernel_rfl) rfl
  have x43 := hx 43 s43 (by kernel_rfl) rfl
  have x44 := hx 44 s44 (by kernel_rfl) rfl
  have x45 := hx 45 s45 (by kernel_rfl) rfl
  have x46 := hx 46 s46 (by kernel_rfl) rfl
  have x47 := hx 47 s47 (by kernel_rfl) rfl
  have x48 := hx 48 s48 (by kernel_rfl) rfl
  have x49 := hx 49 s49 (by kernel_rfl) rfl
  have x50 := hx 50 s50 (by kernel_rfl) rfl
  have x51 := hx 51 s51 (by kernel_rfl) rfl
  have x52 := hx 52 s52 (by kernel_rfl) rfl
  have x53 := hx 53 s53 (by kernel_rfl) rfl
  have x54 := hx 54 s54 (by kernel_rfl) rfl
  have x55 := hx 55 s55 (by kernel_rfl) rfl
  have x56 : a.tmps.getD 56 undef = .pointer (some ⟨g, 7, none⟩) := (hf 0 _ 56 rfl rfl (by decide)).1
  have x57 : a.tmps.getD 57 undef = .slice (some ⟨ga, oa, none⟩) m1 p.e := (hf 1 _ 57 rfl rfl (by decide)).1
  have x58 : a.tmps.getD 58 undef = .int .i64 i := (hf 2 _ 58 rfl rfl (by decide)).1
  have x59 : a.tmps.getD 59 undef = .pointer (some ⟨ga, oa + i * 8, none⟩) := (hf 3 _ 59 rfl rfl (by decide)).1
  have x60 : a.tmps.getD 60 undef = tmV qx x := (hf 4 _ 60 rfl rfl (by decide)).1
  have x61 : a.tmps.getD 61 undef = .pointer (some ⟨h, 7, none⟩) := (hf 5 _ 61 rfl rfl (by decide)).1
  have x62 : a.tmps.getD 62 undef = .slice (some ⟨gd, od, none⟩) m2 q.e := (hf 6 _ 62 rfl rfl (by decide)).1
  have x63 : a.tmps.getD 63 undef = .int .i64 i := (hf 7 _ 63 rfl rfl (by decide)).1
  have x64 : a.tmps.getD 64 undef = .pointer (some ⟨gd, od + i * 8, none⟩) := (hf 8 _ 64 rfl rfl (by decide)).1
  have x65 : a.tmps.getD 65 undef = tmV qy y := (hf 9 _ 65 rfl rfl (by decide)).1
  have x66 : a.tmps.getD 66 undef = .bool r := (hf 10 _ 66 rfl rfl (by decide)).1
  have x67 : a.tmps.getD 67 undef = .bool (!r) := (hf 11 _ 67 rfl rfl (by decide)).1
  have x68 := hx 68 s68 (by kernel_rfl) rfl
  have hl : a.tmps = (s0 :: s1 :: (.pointer (some ⟨g, 0, none⟩) : Value) :: (.pointer (some ⟨h, 0, none⟩) : Value) :: s4 :: (.int .i64 i : Value) :: s6 :: s7 :: s8 :: s9 :: s10 :: s11 :: s12 :: s13 :: s14 :: s15 :: s16 :: s17 :: s18 :: s19 :: s20 :: s21 :: s22 :: s23 :: s24 :: s25 :: s26 :: s27 :: s28 :: s29 :: s30 :: s31 :: s32 :: s33 :: s34 :: s35 :: s36 :: s37 :: s38 :: s39 :: s40 :: s41 :: s42 :: s43 :: s44 :: s45 :: s46 :: s47 :: s48 :: s49 :: s50 :: s51 :: s52 :: s53 :: s54 :: s55 :: (.pointer (some ⟨g, 7, none⟩) : Value) :: (.slice (some ⟨ga, oa, none⟩) m1 p.e : Value) :: (.int .i64 i : Value) :: (.pointer (some ⟨ga, oa + i * 8, none⟩) : Value) :: (tmV qx x : Value) :: (.pointer (some ⟨h, 7, none⟩) : Value) :: (.slice (some ⟨gd, od, none⟩) m2 q.e : Value) :: (.int .i64 i : Value) :: (.pointer (some ⟨gd, od + i * 8, none⟩) : Value) :: (tmV qy y : Value) :: (.bool r : Value) :: (.bool (!r) : Value) :: s68 :: ([] : List Value)).toArray := by
    have h := lit a.tmps 69 hs
    have e : ((List.range 69).map (fun i => a.tmps.getD i undef)).toArray = ((a.tmps.getD 0 undef : Value) :: (a.tmps.getD 1 undef : Value) :: (a.tmps.getD 2 undef : Value) :: (a.tmps.getD 3 undef : Value) :: (a.tmps.getD 4 undef : Value) :: (a.tmps.getD 5 undef : Value) :: (a.tmps.getD 6 undef : Value) :: (a.tmps.getD 7 undef : Value) :: (a.tmps.getD 8 undef : Value) :: (a.tmps.getD 9 undef : Value) :: (a.tmps.getD 10 undef : Value) :: (a.tmps.getD 11 undef : Value) :: (a.tmps.getD 12 undef : Value) :: (a.tmps.getD 13 undef : Value) :: (a.tmps.getD 14 undef : Value) :: (a.tmps.getD 15 undef : Value) :: (a.tmps.getD 16 undef : Value) :: (a.tmps.getD 17 undef : Value) :: (a.tmps.getD 18 undef : Value) :: (a.tmps.getD 19 undef : Value) :: (a.tmps.getD 20 undef : Value) :: (a.tmps.getD 21 undef : Value) :: (a.tmps.getD 22 undef : Value) :: (a.tmps.getD 23 undef : Value) :: (a.tmps.getD 24 undef : Value) :: (a.tmps.getD 25 undef : Value) :: (a.tmps.getD 26 undef : Value) :: (a.tmps.getD 27 undef : Value) :: (a.tmps.getD 28 undef : Value) :: (a.tmps.getD 29 undef : Value) :: (a.tmps.getD 30 undef : Value) :: (a.tmps.getD 31 undef : Value) :: (a.tmps.getD 32 undef : Value) :: (a.tmps.getD 33 undef : Value) :: (a.tmps.getD 34 undef : Value) :: (a.tmps.getD 35 undef : Value) :: (a.tmps.getD 36 undef : Value) :: (a.tmps.getD 37 undef : Value) :: (a.tmps.getD 38 undef : Value) :: (a.tmps.getD 39 undef : Value) :: (a.tmps.getD 40 undef : Value) :: (a.tmps.getD 41 undef : Value) :: (a.tmps.getD 42 undef : Value) :: (a.tmps.getD 43 undef : Value) :: (a.tmps.getD 44 undef : Value) :: (a.tmps.getD 45 undef : Value) :: (a.tmps.getD 46 undef : Value) :: (a.tmps.getD 47 undef : Value) :: (a.tmps.getD 48 undef : Value) :: (a.tmps.getD 49 undef : Value) :: (a.tmps.getD 50 undef : Value) :: (a.tmps.getD 51 undef : Value) :: (a.tmps.getD 52 undef : Value) :: (a.tmps.getD 53 undef : Value) :: (a.tmps.getD 54 undef : Value) :: (a.tmps.getD 55 undef : Value) :: (a.tmps.getD 56 undef : Value) :: (a.tmps.getD 57 undef : Value) :: (a.tmps.getD 58 undef : Value) :: (a.tmps.getD 59 undef : Value) :: (a.tmps.getD 60 undef : Value) :: (a.tmps.getD 61 undef : Value) :: (a.tmps.getD 62 undef : Value) :: (a.tmps.getD 63 undef : Value) :: (a.tmps.getD 64 undef : Value) :: (a.tmps.getD 65 undef : Value) :: (a.tmps.getD 66 undef : Value) :: (a.tmps.getD 67 undef : Value) :: (a.tmps.getD 68 undef : Value) :: ([] : List Value)).toArray := rfl
    rw [e, x0, x1, x2, x3, x4, x5, x6, x7, x8, x9, x10, x11, x12, x13, x14, x15, x16, x17, x18, x19, x20, x21, x22, x23, x24, x25, x26, x27, x28, x29, x30, x31, x32, x33, x34, x35, x36, x37, x38, x39, x40, x41, x42, x43, x44, x45, x46, x47, x48, x49, x50, x51, x52, x53, x54, x55, x56, x57, x58, x59, x60, x61, x62, x63, x64, x65, x66, x67, x68] at h
    exact h
  obtain ⟨tmps, defers⟩ := a
  obtain rfl : defers = [] := hd
  have hl' : tmps = _ := hl
  rw [hl']
  have hb' := est2_chg hb
  exact hend w' ⟨hb'.os, hb'.tape, hb'.output, hb'.size, hb'.block⟩

end Go.Proofs.Ytdboloabpjmgaaa

/-! SeW -/
namespace Go.Proofs.Ytdboloabpjmgaaa
open Go.RowKit Go.Proofs.YtdboloabpjmgaaaW.PrintWords Go.RegionInvYtdboloabpjmgaaa Go.RegionEYtdboloabpjmgaaa

theorem equal_at (A B : Option Addr) (c c' m m' : Nat) (k n k' n' : Int) (a b : Lv) (w : World) (hk : a.kind = k) (hn : a.num = n) (hm : a.kids.length = m) (hk' : b.kind = k') (hn' : b.num = n') (hm' : b.kids.length = m') (ha : LvIn w w.heap.size A c a) (hb : LvIn w w.heap.size B c' b) :
    Calls Try.prog 106 #[.agg #[.int .i64 k, .int .i64 n, .slice A m c], .agg #[.int .i64 k', .int .i64 n', .slice B m' c']] w fun e w' => e = .returned (.bool (eqP a b)) ∧ Below w.heap.size w w' := by
  subst hk hn hm hk' hn' hm'
  exact equal_calls A B c c' a b w ha hb
theorem lvsEq_len : ∀ {xs ys : List Lv}, xs.length ≠ ys.length → lvsEq xs ys = false
  | [], [], h => absurd rfl h
  | [], _ :: _, _ => rfl
  | _ :: _, [], _ => rfl
  | x :: r, y :: s, h => by
    show (eqP x y && lvsEq r s) = false
    rw [lvsEq_len (xs := r) (ys := s) (by simpa using h), Bool.and_false]
theorem lvsEq_cons (x y : Lv) (r s : List Lv) : lvsEq (x :: r) (y :: s) = (eqP x y && lvsEq r s) := rfl
theorem drop_lv {ks : List Lv} {i : Nat} {x : Lv} (h : ks[i]? = some x) : ks.drop i = x :: ks.drop (i + 1) := by
  obtain ⟨hl, rfl⟩ := List.getElem?_eq_some_iff.1 h
  exact List.drop_eq_getElem_cons hl
set_option maxRecDepth 100000 in
set_option maxHeartbeats 4000000 in
theorem eqf_calls (A B : Option Addr) (n m cA cB : Nat) (xs ys : List Lv) (w : World) (hx : LvIn w w.heap.size A cA (.mk 0 0 xs)) (hy : LvIn w w.heap.size B cB (.mk 0 0 ys)) (hn : xs.length = n) (hm : ys.length = m) :
    Calls Try.prog 107 #[.slice A n cA, .slice B m cB, .func (.func 106) #[] #[]] w fun e w' => e = .returned (.bool (lvsEq xs ys)) ∧ Below w.heap.size w w' := by
  have HX := Aside0.mk hx
  have HY := Aside0.mk hy
  have hlx := hx.len
  have hly := hy.len
  simp only [Lv.kids] at hlx hly
  rw [hn] at hlx
  rw [hm] at hly
  have HN := Aside0.mk hn
  have HM := Aside0.mk hm
  clear hx hy hn hm
  go_enter Try.func107, Try.ntmps107
  by_cases hnm : n = m
  · subst hnm
    have hb : ((n : Int) != (n : Int)) = false := by simp
    go_wp2
    go_loopw [17] (fun i wr => ∃ k : Nat, i = .int .i64 k ∧ k ≤ n ∧ Aside0 (lvsEq (xs.drop k) (ys.drop k) = lvsEq xs ys) ∧ Aside0 (Below w.heap.size w wr)) (fun i _ => n - (intOf i).toNat)
    case atStart => exact ⟨0, rfl, Nat.zero_le _, ⟨rfl⟩, ⟨Below.refl _ _⟩⟩
    case round =>
      obtain ⟨k, rfl, hk, HK, HB⟩ := hrel
      by_cases hlt : k < n
      · obtain ⟨x, hx⟩ : ∃ x, xs[k]? = some x := ⟨_, List.getElem?_eq_getElem (by rw [HN.out]; exact hlt)⟩
        obtain ⟨y, hy⟩ : ∃ y, ys[k]? = some y := ⟨_, List.getElem?_eq_getElem (by rw [HM.out]; exact hlt)⟩
        obtain ⟨A', c', hcs, hin⟩ := (LvIn.stay HX.out HB.out).kid k x hx
        obtain ⟨B', d', hct, hin2⟩ := (LvIn.stay HY.out HB.out).kid k y hy
        obtain ⟨ad, rfl, d1, d2, d3⟩ := hcs.facts
        obtain ⟨bd, rfl, f1, f2, f3⟩ := hct.facts
        have HDX := Aside0.mk (drop_lv hx)
        have HDY := Aside0.mk (drop_lv hy)
        have HXI := Aside0.mk hin.all
        have HYI := Aside0.mk hin2.all
        obtain ⟨xk, hxk⟩ : ∃ z, x.kind = z := ⟨_, rfl⟩
        obtain ⟨xn, hxn⟩ : ∃ z, x.num = z := ⟨_, rfl⟩
        obtain ⟨xm, hxm⟩ : ∃ z, x.kids.length = z := ⟨_, rfl⟩
        obtain ⟨yk, hyk⟩ : ∃ z, y.kind = z := ⟨_, rfl⟩
        obtain ⟨yn, hyn⟩ : ∃ z, y.num = z := ⟨_, rfl⟩
        obtain ⟨ym, hym⟩ : ∃ z, y.kids.length = z := ⟨_, rfl⟩
        rw [hxk] at d1; rw [hxn] at d2; rw [hxm] at d3
        rw [hyk] at f1; rw [hyn] at f2; rw [hym] at f3
        have HQ := Aside0.mk (And.intro hxk (And.intro hxn (And.intro hxm (And.intro hyk (And.intro hyn hym)))))
        have hce : ∀ (o : Obj) (p : Addr) (v : Value), wr.cell? p = some v → (wr.alloc o).cell? p = some v := fun o p v hv => ((below_alloc (Below.refl wr.heap.size wr) o).cell (World.block_lt_of_cell? wr _ hv)).trans hv
        have g1 := hce (.cells #[.int .i64 xk, .int .i64 xn, .slice A' xm c'] 25 (0, 0)) _ _ f1
        have g2 := hce (.cells #[.int .i64 xk, .int .i64 xn, .slice A' xm c'] 25 (0, 0)) _ _ f2
        have g3 := hce (.cells #[.int .i64 xk, .int .i64 xn, .slice A' xm c'] 25 (0, 0)) _ _ f3
        clear hcs hct hin hin2 hx hy hxk hxn hxm hyk hyn hym hce
        go_upto_region 6 with (fail)
        obtain ⟨W1, hW1⟩ : ∃ W1, W1 = wr.alloc (.cells #[.int .i64 xk, .int .i64 xn, .slice A' xm c'] 25 (0, 0)) := ⟨_, rfl⟩
        rw [← hW1] at g1 g2 g3
        have hb1 : Below wr.heap.size wr W1 := by rw [hW1]; exact below_alloc (Below.refl _ _) _
        have hx1 : W1.heap[wr.heap.size]? = some (.cells #[.int .i64 xk, .int .i64 xn, .slice A' xm c'] 25 (0, 0)) := by rw [hW1]; exact blk_new _ _
        rw [← hW1]
        clear hW1 d1 d2 d3 f1 f2 f3
        go_upto_region 7 with (fail)
        obtain ⟨W2, hW2⟩ : ∃ W2, W2 = W1.alloc (.cells #[.int .i64 yk, .int .i64 yn, .slice B' ym d'] 25 (0, 0)) := ⟨_, rfl⟩
        have hb2 : Below W1.heap.size W1 W2 := by rw [hW2]; exact below_alloc (Below.refl _ _) _
        have hx2 : W2.heap[wr.heap.size]? = some (.cells #[.int .i64 xk, .int .i64 xn, .slice A' xm c'] 25 (0, 0)) := (hb2.block _ (blk_lt hx1)).trans hx1
        have hy2 : W2.heap[W1.heap.size]? = some (.cells #[.int .i64 yk, .int .i64 yn, .slice B' ym d'] 25 (0, 0)) := by rw [hW2]; exact blk_new _ _
        have HB2 := Aside0.mk (below_then HB.out HB.out.size (below_then hb1 hb1.size hb2))
        have HXJ := Aside0.mk ((LvS.later HXI.out (below_then hb1 hb1.size hb2)).all)
        have HYJ := Aside0.mk ((LvS.later HYI.out (below_then hb1 hb1.size hb2)).all)
        obtain ⟨r0, r1, r2, -, -, -⟩ := row3 hx2
        obtain ⟨s0, s1, s2, -, -, -⟩ := row3 hy2
        rw [← hW2]
        clear hW2 hb1 hb2 hx1 hx2 hy2 g1 g2 g3
        have hcall := HQ.out
        have HCE := Aside0.mk (equal_at A' B' c' d' xm ym xk xn yk yn x y W2 hcall.1 hcall.2.1 hcall.2.2.1 hcall.2.2.2.1 hcall.2.2.2.2.1 hcall.2.2.2.2.2 HXJ.out HYJ.out)
        clear hcall
        cases he : eqP x y with
        | true =>
          have HV := Aside0.mk he
          have HK2 := Aside0.mk (show lvsEq (xs.drop (k + 1)) (ys.drop (k + 1)) = lvsEq xs ys by rw [← HK.out, HDX.out, HDY.out, lvsEq_cons, he, Bool.true_and])
          clear he
          go_wp2_with (go_at_call 106; go_must (refine HCE.out.mono ?_; rintro e w3 ⟨rfl, hb⟩; rw [HV.out]; have HB3 := Aside0.mk (below_then HB2.out HB2.out.size hb); clear hb))
          go_roundw
          case rel => exact ⟨k + 1, by go_num, by omega, HK2, HB3⟩
          case measure => (simp [intOf]; try omega)
        | false =>
          have HV := Aside0.mk he
          have HK2 := Aside0.mk (show lvsEq xs ys = false by rw [← HK.out, HDX.out, HDY.out, lvsEq_cons, he, Bool.false_and])
          clear he
          go_wp2_with (go_at_call 106; go_must (refine HCE.out.mono ?_; rintro e w3 ⟨rfl, hb⟩; rw [HV.out]; have HB3 := Aside0.mk (below_then HB2.out HB2.out.size hb); clear hb))
          go_ret
          rw [HK2.out]
          exact ⟨rfl, HB3.out⟩
      · obtain rfl : k = n := by omega
        have hlt' : decide ((k : Int) < k) = false := by simp
        have HZ := Aside0.mk (show lvsEq xs ys = true by rw [← HK.out, List.drop_of_length_le (by rw [HN.out]; exact Nat.le_refl _), List.drop_of_length_le (by rw [HM.out]; exact Nat.le_refl _)]; rfl)
        go_wp2
        go_ret
        rw [HZ.out]
        exact ⟨rfl, HB.out⟩
  · have hb : ((n : Int) != (m : Int)) = true := by simp; omega
    have HF := Aside0.mk (lvsEq_len (xs := xs) (ys := ys) (by rw [HN.out, HM.out]; exact hnm))
    clear hnm
    go_wp2
    go_ret
    rw [HF.out]
    exact ⟨rfl, Below.refl _ _⟩
theorem kind_leaf {t : Tm} (h : t.kind = 1 ∨ t.kind = 2 ∨ t.kind = 7) : nK t = 0 ∧ leafR t = false := by
  have ha : arZ t.kind = 0 := if_pos h
  refine ⟨?_, ?_⟩
  · unfold nK; rw [ha]; split <;> rfl
  · unfold leafR; rw [ha]; exact decide_eq_false (by omega)
theorem sm_kind {t u : Tm} (h : t.kind ≠ u.kind) : sameT t u = false := by rw [same_eq]; unfold hdB; rw [decide_eq_false h]; rfl
theorem leafR_leaf {t : Tm} (h : leafT t = true) (h1 : t.kind ≠ 1) (h2 : t.kind ≠ 2) (h7 : t.kind ≠ 7) : leafR t = true := by
  have h0 := leaf_nK h
  unfold leafR
  unfold nK at h0
  have ha : arZ t.kind ≠ 0 := by
    unfold arZ
    rw [if_neg (by omega)]
    split
    · omega
    · split <;> omega
  refine decide_eq_true ?_
  split at h0
  · exact .inr (by assumption)
  · exact .inl (by omega)
theorem sm_leaf {t u : Tm} (hk : t.kind = u.kind) (h : leafT t ≠ leafT u) : sameT t u = false := by
  have key : ∀ {a b : Tm}, a.kind = b.kind → leafT a = false → leafT b = true → leafR a = false ∧ leafR b = true := fun hk ha hb => by
    obtain ⟨k1, k2, k7⟩ := kind_node ha
    exact ⟨leafR_node ha, leafR_leaf hb (by rw [← hk]; exact k1) (by rw [← hk]; exact k2) (by rw [← hk]; exact k7)⟩
  rw [same_eq]
  unfold hdB
  cases ht : leafT t with
  | true =>
    cases hu : leafT u with
    | true => rw [ht, hu] at h; exact absurd rfl h
    | false => obtain ⟨e1, e2⟩ := key hk.symm hu ht; rw [e1, e2]; simp
  | false =>
    cases hu : leafT u with
    | true => obtain ⟨e1, e2⟩ := key hk ht hu; rw [e1, e2]; simp
    | false => rw [ht, hu] at h; exact absurd rfl h
theorem sm_var {t u : Tm} (hk : t.kind = u.kind) (k : t.kind = 1) : sameT t u = (t.num == u.num) := by
  obtain ⟨h1, h2⟩ := kind_leaf (t := t) (.inl k)
  obtain ⟨-, h3⟩ := kind_leaf (t := u) (.inl (by rw [← hk]; exact k))
  rw [same_leaf (leafT_of h1)]
  unfold hdB
  rw [decide_eq_true hk, h2, h3, if_pos k]
  rfl
theorem sm_sort {t u : Tm} (hk : t.kind = u.kind) (k : t.kind = 2) : sameT t u = eqP t.lv u.lv := by
  obtain ⟨h1, h2⟩ := kind_leaf (t := t) (.inr (.inl k))
  obtain ⟨-, h3⟩ := kind_leaf (t := u) (.inr (.inl (by rw [← hk]; exact k)))
  rw [same_leaf (leafT_of h1)]
  unfold hdB
  rw [decide_eq_true hk, h2, h3, if_neg (by omega), if_pos k]
  rfl
theorem sm_const {t u : Tm} (hk : t.kind = u.kind) (k : t.kind = 7) : sameT t u = ((t.name.toList == u.name.toList) && lvsEq t.ls u.ls) := by
  obtain ⟨h1, h2⟩ := kind_leaf (t := t) (.inr (.inr k))
  obtain ⟨-, h3⟩ := kind_leaf (t := u) (.inr (.inr (by rw [← hk]; exact k)))
  rw [same_leaf (leafT_of h1)]
  unfold hdB
  rw [decide_eq_true hk, h2, h3, if_neg (by omega), if_neg (by omega), if_pos k]
  simp
theorem sm_bare {t u : Tm} (hk : t.kind = u.kind) (h1 : t.kind ≠ 1) (h2 : t.kind ≠ 2) (h7 : t.kind ≠ 7) (ht : leafT t = true) (hu : leafT u = true) : sameT t u = true := by
  rw [same_leaf ht]
  unfold hdB
  rw [decide_eq_true hk, leafR_leaf ht h1 h2 h7, leafR_leaf hu (by rw [← hk]; exact h1) (by rw [← hk]; exact h2) (by rw [← hk]; exact h7)]
  rfl
def alls (t u : Tm) (xs : List (Fin (nK t))) : Bool := xs.all fun i => sameT (kidF t i) (u.kids.getD i.1 default)
theorem sm_node {t u : Tm} (hk : t.kind = u.kind) (ht : leafT t = false) (hu : leafT u = false) : sameT t u = alls t u (List.finRange (nK t)) := by
  rw [same_eq, hd_node ht hu hk, Bool.true_and]; rfl
theorem alls_cons (t u : Tm) (i : Fin (nK t)) (r : List (Fin (nK t))) : alls t u (i :: r) = (sameT (kidF t i) (u.kids.getD i.1 default) && alls t u r) := rfl
theorem nK_same {t u : Tm} (hk : t.kind = u.kind) (ht : leafT t = false) (hu : leafT u = false) : nK t = nK u := by
  have h1 := nK_ar (leaf_nK' ht)
  have h2 := nK_ar (leaf_nK' hu)
  rw [hk] at h1
  omega
theorem below_all {w W : World} {p : Pl} {t : Tm} (h : TmIn w w.heap.size p t) (hb : Below w.heap.size w W) : TmIn W W.heap.size p t := TmS.all (TmIn.stay h hb)
set_option maxRecDepth 100000 in
set_option maxHeartbeats 4000000 in
theorem tsame_calls (N : Nat) : ∀ (t : Tm), SizeOf.sizeOf t < N → ∀ (u : Tm) (p q : Pl) (w : World), TmIn w w.heap.size p t → TmIn w w.heap.size q u →
    Calls Try.prog 85 #[tmV p t, tmV q u] w fun e w' => e = .returned (.bool (sameT t u)) ∧ Below w.heap.size w w' := by
  induction N with
  | zero => intro t h; omega
  | succ N ih =>
    intro t hN u p q w hin hin2
    have IH := Aside0.mk ih
    have HNN := Aside0.mk hN
    have HIN := Aside0.mk hin
    have HIN2 := Aside0.mk hin2
    have hlt := hin.len
    have hlu := hin2.len
    have hlt9 : t.kids.length ≤ 9223372036854775807 := by omega
    have hlu9 : u.kids.length ≤ 9223372036854775807 := by omega
    have hfl := hin.ls.len
    have hfu := hin2.ls.len
    simp only [Lv.kids] at hfl hfu
    obtain ⟨W, hW⟩ : ∃ W, W = (w.alloc (tmO p t)).alloc (tmO q u) := ⟨_, rfl⟩
    have hb : Below w.heap.size w W := by rw [hW]; exact below_alloc (below_alloc (Below.refl _ _) _) _
    have HX := Aside0.mk (show W.heap[w.heap.size]? = some (tmO p t) by rw [hW]; exact box0 w _ _)
    have HY := Aside0.mk (show W.heap[w.heap.size + 1]? = some (tmO q u) by rw [hW]; exact box1 w _ _)
    have HB := Aside0.mk hb
    clear ih hN hin hin2 hb
    unfold tmV
    unfold tmO at hW
    go_enter Try.func85, Try.ntmps85
    go_upto_region 1 with (fail)
    rw [← hW]
    clear hW
    by_cases hkk : t.kind = u.kind
    · obtain ⟨la, hla⟩ : ∃ x, leafT t = x := ⟨_, rfl⟩
      obtain ⟨lb, hlb⟩ : ∃ x, leafT u = x := ⟨_, rfl⟩
      by_cases hll : la = lb
      · refine spy_region W w.heap.size (w.heap.size + 1) p q t u la lb false HX.out HY.out hkk hla hlb (by simp [hll]) ?_
        intro w1 hch
        have hb1 : Below W.heap.size W w1 := hch.below (fun _ h => h.elim False.elim False.elim) (Nat.le_refl _)
        have HB1 := Aside0.mk (below_then HB.out HB.out.size hb1)
        have HX1 := Aside0.mk ((hb1.block _ (blk_lt HX.out)).trans HX.out)
        have HY1 := Aside0.mk ((hb1.block _ (blk_lt HY.out)).trans HY.out)
        have HKK := Aside0.mk hkk
        have HLA := Aside0.mk hla
        have HLB := Aside0.mk hlb
        clear hch hb1 hkk hla hlb HX HY
        subst hll
        obtain ⟨p0, p1, p2, p3, p4, p5, p6, p7⟩ := row8 HX1.out
        obtain ⟨q0, q1, q2, q3, q4, q5, q6, q7⟩ := row8 HY1.out
        by_cases k1 : t.kind = 1
        · have b1 : (t.kind == 1) = true := by simp [k1]
          have HE := Aside0.mk (sm_var HKK.out k1)
          clear k1
          go_wp2
          go_ret
          rw [HE.out]
          exact ⟨rfl, HB1.out⟩
        · have b1 : (t.kind == 1) = false := by simp [k1]
          by_cases k2 : t.kind = 2
          · have b2 : (t.kind == 2) = true := by simp [k2]
            have HE := Aside0.mk (sm_sort HKK.out k2)
            clear k1 k2
            go_wp2_with (go_at_call 106; go_must (refine (equal_at p.A q.A p.c q.c _ _ _ _ _ _ t.lv u.lv w1 rfl rfl rfl rfl rfl rfl (below_all HIN.out HB1.out).lv.all (below_all HIN2.out HB1.out).lv.all).mono ?_; rintro e w2 ⟨rfl, hb⟩; have HB2 := Aside0.mk (below_then HB1.out HB1.out.size hb); clear hb))
            go_ret
            rw [HE.out]
            exact ⟨rfl, HB2.out⟩
          · have b2 : (t.kind == 2) = false := by simp [k2]
            by_cases k7 : t.kind = 7
            · have b7 : (t.kind == 7) = true := by simp [k7]
              have HE := Aside0.mk (sm_const HKK.out k7)
              clear k1 k2 k7
              cases hn : (t.name.toList == u.name.toList) with
              | true =>
                have HE2 := Aside0.mk (show sameT t u = lvsEq t.ls u.ls by rw [HE.out, hn, Bool.true_and])
                go_wp2_with (go_at_call 107; go_must (refine (eqf_calls p.B q.B _ _ p.d q.d t.ls u.ls w1 (below_all HIN.out HB1.out).ls.all (below_all HIN2.out HB1.out).ls.all rfl rfl).mono ?_; rintro e w2 ⟨rfl, hb⟩; have HB2 := Aside0.mk (below_then HB1.out HB1.out.size hb); clear hb))
                go_ret
                rw [HE2.out]
                exact ⟨rfl, HB2.out⟩
              | false =>
                have HE2 := Aside0.mk (show sameT t u = false by rw [HE.out, hn, Bool.false_and])
                go_wp2
                go_ret
                rw [HE2.out]
                exact ⟨rfl, HB1.out⟩
            · have b7 : (t.kind == 7) = false := by simp [k7]
              have HKN := Aside0.mk (And.intro k1 (And.intro k2 k7))
              clear k1 k2 k7
              cases la with
              | true =>
                have HE := Aside0.mk (sm_bare HKK.out HKN.out.1 HKN.out.2.1 HKN.out.2.2 HLA.out HLB.out)
                go_wp2_with (first
                  | (refine wpList_load_row rfl 28 _ rfl (w.heap.size) rfl 28 _ (0, 0) _ HX1.out Try.underlying28 rfl (by kernel_rfl) ?_)
                  | (go_at_call 75; go_must (refine (leaf_calls t p w1).mono ?_; rintro e w2 ⟨rfl, hb⟩; rw [HLA.out]; have HB2 := Aside0.mk (below_then HB1.out HB1.out.size hb); clear hb)))
                go_ret
                rw [HE.out]
                exact ⟨rfl, HB2.out⟩
              | false =>
                have HE := Aside0.mk (sm_node HKK.out HLA.out HLB.out)
                go_upto_region 12 with (first
                  | (refine wpList_load_row rfl 28 _ rfl (w.heap.size) rfl 28 _ (0, 0) _ HX1.out Try.underlying28 rfl (by kernel_rfl) ?_)
                  | (go_at_call 75; go_must (refine (leaf_calls t p w1).mono ?_; rintro e w2 ⟨rfl, hb⟩; rw [HLA.out]; have HB2 := Aside0.mk (below_then HB1.out HB1.out.size hb); have HX2 := Aside0.mk ((hb.block _ (blk_lt HX1.out)).trans HX1.out); have HY2 := Aside0.mk ((hb.block _ (blk_lt HY1.out)).trans HY1.out); have c0 := (row8 HX2.out).1; clear hb)))
                obtain ⟨ar, har⟩ : ∃ x, nK t = x := ⟨_, rfl⟩
                have HAR := Aside0.mk har
                have hnk := nK_ar (leaf_nK' HLA.out)
                have HAC := Aside0.mk (show ∀ w, Calls Try.prog 104 #[.int .i64 t.kind] w fun e w' => e = .returned (.int .i64 (ar : Int)) ∧ w' = w from fun w => by rw [← har, hnk]; exact tar_calls _ _)
                have har3 : ar ≤ 3 := by rw [← har]; exact nK_le3 t
                have hart : ar ≤ t.kids.length := by rw [← har]; exact nK_le t
                have haru : ar ≤ u.kids.length := by rw [← har, nK_same HKK.out HLA.out HLB.out]; exact nK_le u
                clear har hnk p0 p1 p2 p3 p4 p5 p6 p7 q0 q1 q2 q3 q4 q5 q6 q7
                go_wp2_with (go_at_call 104; go_must (refine (HAC.out _).mono ?_; rintro e w3 ⟨rfl, h3⟩; have h3 := h3.symm; subst h3))
                clear c0
                go_loopw [53] (fun i wr => ∃ k : Nat, i = .int .i64 k ∧ k ≤ ar ∧ Aside0 (alls t u ((List.finRange (nK t)).drop k) = sameT t u) ∧ Aside0 (Below w2.heap.size w2 wr)) (fun i _ => ar - (intOf i).toNat)
                case atStart => exact ⟨0, rfl, Nat.zero_le _, ⟨by rw [List.drop_zero]; exact HE.out.symm⟩, ⟨Below.refl _ _⟩⟩
                case round =>
                  obtain ⟨k, rfl, hk, HK, HBR⟩ := hrel
                  by_cases hlk : k < ar
                  · have hkn : k < nK t := by rw [HAR.out]; exact hlk
                    have hkm : k < nK u := by rw [← nK_same HKK.out HLA.out HLB.out]; exact hkn
                    have HDF := Aside0.mk (drop_fin hkn)
                    have HBA := Aside0.mk (below_then HB2.out HB2.out.size HBR.out)
                    obtain ⟨qq, hqq⟩ := (TmIn.stay HIN.out HBA.out).kid
                    obtain ⟨qr, hqr⟩ := (TmIn.stay HIN2.out HBA.out).kid
                    obtain ⟨⟨ga, oa, hpK, hga, hca⟩, hxin⟩ := hqq k _ (kidF_get t ⟨k, hkn⟩)
                    obtain ⟨⟨gd, od, hqK, hgd, hcb⟩, hyin⟩ := hqr k _ (kidF_get u ⟨k, hkm⟩)
                    have HGD := Aside0.mk (show u.kids.getD k default = kidF u ⟨k, hkm⟩ by rw [List.getD_eq_getElem?_getD, kidF_get u ⟨k, hkm⟩]; rfl)
                    have HAL := Aside0.mk (alls_cons t u ⟨k, hkn⟩ ((List.finRange (nK t)).drop (k + 1)))
                    have HXL := Aside0.mk (kidF_lt t ⟨k, hkn⟩)
                    obtain ⟨x, hxe⟩ : ∃ x, kidF t ⟨k, hkn⟩ = x := ⟨_, rfl⟩
                    obtain ⟨y, hye⟩ : ∃ y, kidF u ⟨k, hkm⟩ = y := ⟨_, rfl⟩
                    rw [hxe] at hca hxin HAL HXL
                    rw [hye] at hcb hyin HGD
                    rw [HGD.out] at HAL
                    have HXI := Aside0.mk (TmS.all hxin)
                    have HYI := Aside0.mk (TmS.all hyin)
                    have HXR := Aside0.mk ((HBR.out.block _ (blk_lt HX2.out)).trans HX2.out)
                    have HYR := Aside0.mk ((HBR.out.block _ (blk_lt HY2.out)).trans HY2.out)
                    obtain ⟨r, hr⟩ : ∃ r, sameT x y = r := ⟨_, rfl⟩
                    have HR := Aside0.mk hr
                    have hzr := HBA.out.size
                    have ca := fun (j : Nat) (v : Value) (h : (tmC (qq k) x)[j]? = some v) => hca j v h
                    have cb := fun (j : Nat) (v : Value) (h : (tmC (qr k) y)[j]? = some v) => hcb j v h
                    go_upto_region 15 with (fail)
                    refine spk_region wr w.heap.size (w.heap.size + 1) k p q t u ga oa gd od t.kids.length u.kids.length (qq k) (qr k) x y r HXR.out HYR.out hpK hqK rfl rfl (by omega) (by omega) (by omega) (by omega) hlt9 hlu9 (by omega)
                      (ca 0 _ rfl) (ca 1 _ rfl) (ca 2 _ rfl) (ca 3 _ rfl) (ca 4 _ rfl) (ca 5 _ rfl) (ca 6 _ rfl) (ca 7 _ rfl) (cb 0 _ rfl) (cb 1 _ rfl) (cb 2 _ rfl) (cb 3 _ rfl) (cb 4 _ rfl) (cb 5 _ rfl) (cb 6 _ rfl) (cb 7 _ rfl)
                      (fun w9 hb9 => by rw [← hr]; exact IH.out x (by have := HXL.out; have := HNN.out; omega) y (qq k) (qr k) w9 (below_all HXI.out hb9) (below_all HYI.out hb9)) ?_
                    intro w5 hch
                    have HB5 := Aside0.mk (below_then HBR.out HBR.out.size (hch.below (fun _ h => h.elim False.elim False.elim) (Nat.le_refl _)))
                    clear hch hca hcb hxin hyin hpK hqK hga hgd hqq hqr hxe hye ca cb hr
                    cases r with
                    | true =>
                      have HK2 := Aside0.mk (show alls t u ((List.finRange (nK t)).drop (k + 1)) = sameT t u by rw [← HK.out, HDF.out, HAL.out, HR.out, Bool.true_and])
                      go_wp2
                      go_roundw
                      case rel => exact ⟨k + 1, by go_num, by omega, HK2, HB5⟩
                      case measure => (simp [intOf]; try omega)
                    | false =>
                      have HK2 := Aside0.mk (show sameT t u = false by rw [← HK.out, HDF.out, HAL.out, HR.out, Bool.false_and])
                      have HFN := Aside0.mk (below_then HB2.out HB2.out.size HB5.out)
                      go_wp2
                      go_ret
                      rw [HK2.out]
                      exact ⟨rfl, HFN.out⟩
                  · obtain rfl : k = ar := by omega
                    have hlt' : decide ((k : Int) < k) = false := by simp
                    have HZ := Aside0.mk (show sameT t u = true by rw [← HK.out, List.drop_of_length_le (by rw [List.length_finRange, HAR.out]; exact Nat.le_refl _)]; rfl)
                    have HFN := Aside0.mk (below_then HB2.out HB2.out.size HBR.out)
                    go_wp2
                    go_ret
                    rw [HZ.out]
                    exact ⟨rfl, HFN.out⟩
      · refine spy_region W w.heap.size (w.heap.size + 1) p q t u la lb true HX.out HY.out hkk hla hlb (by simp [hll]) ?_
        intro w1 hch
        have hb1 : Below W.heap.size W w1 := hch.below (fun _ h => h.elim False.elim False.elim) (Nat.le_refl _)
        have HB1 := Aside0.mk (below_then HB.out HB.out.size hb1)
        have HX1 := Aside0.mk ((hb1.block _ (blk_lt HX.out)).trans HX.out)
        have HY1 := Aside0.mk ((hb1.block _ (blk_lt HY.out)).trans HY.out)
        have HKK := Aside0.mk hkk
        have HLA := Aside0.mk hla
        have HLB := Aside0.mk hlb
        clear hch hb1 hkk hla hlb HX HY
        have HE := Aside0.mk (sm_leaf HKK.out (by rw [HLA.out, HLB.out]; exact hll))
        clear hll
        go_wp2
        go_ret
        rw [HE.out]
        exact ⟨rfl, HB1.out⟩
    · refine spn_region W w.heap.size (w.heap.size + 1) p q t u HX.out HY.out hkk ?_
      intro w1 hch
      have HB1 := Aside0.mk (below_then HB.out HB.out.size (hch.below (fun _ h => h.elim False.elim False.elim) (Nat.le_refl _)))
      have HE := Aside0.mk (sm_kind hkk)
      clear hch hkk
      go_wp2
      go_ret
      rw [HE.out]
      exact ⟨rfl, HB1.out⟩
set_option maxRecDepth 100000 in
set_option maxHeartbeats 4000000 in
theorem tSame_calls (t u : Tm) (p q : Pl) (w : World) (hin : TmIn w w.heap.size p t) (hin2 : TmIn w w.heap.size q u) :
    Calls Try.prog 48 #[tmV p t, tmV q u] w fun e w' => e = .returned (.bool (SameT t u)) ∧ Below w.heap.size w w' := by
  have HIN := Aside0.mk hin
  have HIN2 := Aside0.mk hin2
  obtain ⟨W, hW⟩ : ∃ W, W = (w.alloc (tmO p t)).alloc (tmO q u) := ⟨_, rfl⟩
  have hb : Below w.heap.size w W := by rw [hW]; exact below_alloc (below_alloc (Below.refl _ _) _) _
  have HX := Aside0.mk (show W.heap[w.heap.size]? = some (tmO p t) by rw [hW]; exact box0 w _ _)
  have HY := Aside0.mk (show W.heap[w.heap.size + 1]? = some (tmO q u) by rw [hW]; exact box1 w _ _)
  have HB := Aside0.mk hb
  clear hin hin2 hb
  unfold tmV
  unfold tmO at hW
  go_enter Try.func48, Try.ntmps48
  go_upto_region 1 with (fail)
  rw [← hW]
  clear hW
  by_cases h1 : okT t
  · have HG1 := Aside0.mk (show greatB t = false by rw [great_eq]; simp [h1])
    by_cases h2 : okT u
    · have HG2 := Aside0.mk (show greatB u = false by rw [great_eq]; simp [h2])
      have HE := Aside0.mk (show SameT t u = sameT t u by unfold SameT; rw [decide_eq_true h1, decide_eq_true h2]; rfl)
      clear h1 h2
      go_wp2_with (first
        | (refine wpList_load_row rfl 28 _ rfl (w.heap.size) rfl 28 _ (0, 0) _ HX.out Try.underlying28 rfl (by kernel_rfl) ?_)
        | (go_at_call 85; go_must (refine (tsame_calls _ t (Nat.lt_succ_self _) u p q w2 (below_all HIN.out HB2.out) (below_all HIN2.out HB2.out)).mono ?_; rintro e w3 ⟨rfl, hb⟩; have HB3 := Aside0.mk (below_then HB2.out HB2.out.size hb); clear hb))
        | (have hgd := HB1; clear hgd; go_at_call 55; go_must (refine (great_calls u q w1 (below_all HIN2.out HB1.out)).mono ?_; rintro e w2 ⟨rfl, hb⟩; rw [HG2.out]; have HB2 := Aside0.mk (below_then HB1.out HB1.out.size hb); have HX2 := Aside0.mk ((hb.block _ (blk_lt HX1.out)).trans HX1.out); have HY2 := Aside0.mk ((hb.block _ (blk_lt HY1.out)).trans HY1.out); obtain ⟨a0, a1, a2, a3, a4, a5, a6, a7⟩ := row8 HX2.out; obtain ⟨z0, z1, z2, z3, z4, z5, z6, z7⟩ := row8 HY2.out; clear hb))
        | (go_at_call 55; go_must (refine (great_calls t p W (below_all HIN.out HB.out)).mono ?_; rintro e w1 ⟨rfl, hb⟩; rw [HG1.out]; have HB1 := Aside0.mk (below_then HB.out HB.out.size hb); have HX1 := Aside0.mk ((hb.block _ (blk_lt HX.out)).trans HX.out); have HY1 := Aside0.mk ((hb.block _ (blk_lt HY.out)).trans HY.out); obtain ⟨y0, y1, y2, y3, y4, y5, y6, y7⟩ := row8 HY1.out; clear hb)))
      go_ret
      rw [HE.out]
      exact ⟨rfl, HB3.out⟩
    · have HG2 := Aside0.mk (show greatB u = true by rw [great_eq]; simp [h2])
      have HE := Aside0.mk (show SameT t u = false by unfold SameT; rw [decide_eq_true h1, decide_eq_false h2]; rfl)
      clear h1 h2
      go_wp2_with (first
        | (refine wpList_load_row rfl 28 _ rfl (w.heap.size) rfl 28 _ (0, 0) _ HX.out Try.underlying28 rfl (by kernel_rfl) ?_)
        | (have hgd := HB1; clear hgd; go_at_call 55; go_must (refine (great_calls u q w1 (below_all HIN2.out HB1.out)).mono ?_; rintro e w2 ⟨rfl, hb⟩; rw [HG2.out]; have HB2 := Aside0.mk (below_then HB1.out HB1.out.size hb); have HX2 := Aside0.mk ((hb.block _ (blk_lt HX1.out)).trans HX1.out); have HY2 := Aside0.mk ((hb.block _ (blk_lt HY1.out)).trans HY1.out); obtain ⟨a0, a1, a2, a3, a4, a5, a6, a7⟩ := row8 HX2.out; obtain ⟨z0, z1, z2, z3, z4, z5, z6, z7⟩ := row8 HY2.out; clear hb))
        | (go_at_call 55; go_must (refine (great_calls t p W (below_all HIN.out HB.out)).mono ?_; rintro e w1 ⟨rfl, hb⟩; rw [HG1.out]; have HB1 := Aside0.mk (below_then HB.out HB.out.size hb); have HX1 := Aside0.mk ((hb.block _ (blk_lt HX.out)).trans HX.out); have HY1 := Aside0.mk ((hb.block _ (blk_lt HY.out)).trans HY.out); obtain ⟨y0, y1, y2, y3, y4, y5, y6, y7⟩ := row8 HY1.out; clear hb)))
      go_ret
      rw [HE.out]
      exact ⟨rfl, HB2.out⟩
  · have HG1 := Aside0.mk (show greatB t = true by rw [great_eq]; simp [h1])
    have HE := Aside0.mk (show SameT t u = false by unfold SameT; rw [decide_eq_false h1]; rfl)
    clear h1
    go_wp2_with (first
      | (refine wpList_load_row rfl 28 _ rfl (w.heap.size) rfl 28 _ (0, 0) _ HX.out Try.underlying28 rfl (by kernel_rfl) ?_)
      | (go_at_call 55; go_must (refine (great_calls t p W (below_all HIN.out HB.out)).mono ?_; rintro e w1 ⟨rfl, hb⟩; rw [HG1.out]; have HB1 := Aside0.mk (below_then HB.out HB.out.size hb); have HX1 := Aside0.mk ((hb.block _ (blk_lt HX.out)).trans HX.out); have HY1 := Aside0.mk ((hb.block _ (blk_lt HY.out)).trans HY.out); obtain ⟨y0, y1, y2, y3, y4, y5, y6, y7⟩ := row8 HY1.out; clear hb)))
    go_ret
    rw [HE.out]
    exact ⟨rfl, HB1.out⟩
end Go.Proofs.Ytdboloabpjmgaaa

/-! LiP -/
namespace Go.Proofs.Ytdboloabpjmgaaa
open Go.RowKit Go.Proofs.YtdboloabpjmgaaaW.PrintWords Go.RegionInvYtdboloabpjmgaaa

theorem lv_var (n b : Int) : LV (varT n) b = if b ≤ n then min (n - b) 9223372036854775806 + 1 else 0 := by
  unfold LV
  show (if (1 : Int) = 1 ∧ b ≤ n then _ else _) = _
  simp only [true_and]
  rfl
theorem lv_no {x : Tm} (h : x.kind ≠ 1) (b : Int) : LV x b = 0 := if_neg fun e => h e.1
theorem lv_is {x : Tm} (h : x.kind = 1) (b : Int) : LV x b = if b ≤ x.num then min (x.num - b) 9223372036854775806 + 1 else 0 := by
  unfold LV
  simp only [h, true_and]
theorem leaf_lift (fr by_ : Int) (x : Tm) (e : Int) : nK (liftF fr by_ x e) = 0 := by
  by_cases k : x.kind = 1
  · rw [liftF_var k]; rfl
  · rw [liftF_no k]; exact nK_nodeP x
theorem ok_like {F : Tm → Int → Tm} {t : Tm} {b : Int} (hF : ∀ x e, leafT x = true → nK (F x e) = 0) (h : okT t) : okT (rebP F t b) := by
  have h1 := reb_size (F := F) (k := 0) (t := t) (b := b) (all_of _ _ (fun x e hl => by rw [size_leaf (hF x e hl)]; omega) t (Nat.lt_succ_self _) b)
  have h2 := reb_depth (F := F) (k := 0) (t := t) (b := b) (all_of _ _ (fun x e hl => by rw [depth_leaf (hF x e hl)]; omega) t (Nat.lt_succ_self _) b)
  exact ⟨by have := h.1; omega, by have := h.2; omega⟩
theorem ok_lift {fr by_ : Int} {t : Tm} {b : Int} (h : okT t) : okT (rebP (liftF fr by_) t b) := ok_like (fun x e _ => leaf_lift fr by_ x e) h
theorem ok_can {t : Tm} {b : Int} (h : okT t) : okT (canT t b) := ok_like (fun x _ _ => nK_nodeP x) h
/-- The same, as both may be. -/
theorem sameT_can {t : Tm} (h : Whole t) {u : Tm} (hu : u = canT t 0) : SameT u t = true := by
  unfold SameT
  rw [hu, decide_eq_true (ok_can h.ok), decide_eq_true h.ok, same_can (h.lf 0)]
  rfl
theorem liftN_ge {fr by_ n b : Int} (h : ¬ (n < b ∨ n - b < fr)) (h0 : 0 ≤ by_) (hs : n + by_ ≤ 9223372036854775807) : liftN fr by_ n b = n + by_ := by
  by_cases hp : 0 < by_
  · rw [liftN_up h hp]; omega
  · rw [liftN_dn h hp]; omega
theorem lift_in {t : Tm} {fr by_ : Int} (h : okT t) (hf : 0 ≤ fr) (hb : -1048576 ≤ by_ ∧ by_ ≤ 1048576) : LiftT t fr by_ = liftT fr by_ t := by
  rw [LiftT_ok h, show max 0 fr = fr by omega, show max (-1048576) (min by_ 1048576) = by_ by omega]
theorem lift_none {t : Tm} (hw : Whole t) {fr by_ : Int} (hf : LM t 0 ≤ fr) : liftT fr by_ t = canT t 0 :=
  reb_congr ((((hw.num 0).both (all_lm _ t (Nat.lt_succ_self _) 0)).both (all_depth _ t (Nat.lt_succ_self _) 0)).mono fun x e _ h => by
    by_cases k : x.kind = 1
    · rw [liftF_var k, nodeP_var k, liftN_lo]
      have h1 := h.1.1 k
      have h2 := h.1.2
      have h3 := h.2
      rw [lv_is k] at h2
      split at h2
      · omega
      · omega
    · rw [liftF_no k])
theorem closed_lift {t : Tm} (hw : Whole t) {fr by_ : Int} (h0 : 0 ≤ fr) (hb : -1048576 ≤ by_ ∧ by_ ≤ 1048576) (hf : LooseT t ≤ fr) : SameT (LiftT t fr by_) t = true := by
  rw [LooseT_ok hw.ok] at hf
  exact sameT_can hw (by rw [lift_in hw.ok h0 hb, lift_none hw hf])
theorem loose_lift {t : Tm} (hw : Whole t) {by_ : Int} (hb : 0 ≤ by_ ∧ by_ ≤ 1048576) (hn : 0 < LooseT t) : LooseT (LiftT t 0 by_) = LooseT t + by_ := by
  rw [lift_in hw.ok (by decide) (by omega)]
  have ho : okT (liftT 0 by_ t) := ok_lift hw.ok
  rw [LooseT_ok hw.ok] at hn ⊢
  rw [LooseT_ok ho]
  have h := reb_lm (F := liftF 0 by_) (g := fun x => if x ≤ 0 then 0 else x + by_) (fun x y => by
      show (if max x y ≤ 0 then 0 else max x y + by_) = max (if x ≤ 0 then 0 else x + by_) (if y ≤ 0 then 0 else y + by_)
      split <;> split <;> split <;> omega) rfl (t := t) (b := 0) (k := 0) (((hw.num 0).both (all_depth _ t (Nat.lt_succ_self _) 0)).mono fun x e _ h => by
    have he := h.2
    have h := h.1
    rw [Int.add_zero, lm_leaf (leaf_lift 0 by_ x e)]
    show max (LV (liftF 0 by_ x e) e) 0 = if max (LV x e) 0 ≤ 0 then 0 else max (LV x e) 0 + by_
    by_cases k : x.kind = 1
    · have hk := h k
      rw [liftF_var k, lv_var, lv_is k]
      by_cases hlo : x.num < e ∨ x.num - e < 0
      · rw [liftN_lo hlo, if_neg (by omega)]
        rfl
      · rw [liftN_ge hlo hb.1 (by omega), if_pos (show e ≤ x.num + by_ by omega), if_pos (show e ≤ x.num by omega), show min (x.num + by_ - e) 9223372036854775806 = x.num + by_ - e by omega, show min (x.num - e) 9223372036854775806 = x.num - e by omega, if_neg (by omega)]
        omega
    · rw [liftF_no k, lv_no k, lv_no (show (nodeP x).kind ≠ 1 from k)]
      rfl)
  have h2 : LM (liftT 0 by_ t) (0 + 0) = if LM t 0 ≤ 0 then 0 else LM t 0 + by_ := h
  rw [Int.add_zero, if_neg (by omega)] at h2
  exact h2
theorem hit_kind {x : Tm} {e : Int} (h : hitB x e = true) : x.kind = 1 ∧ x.num = e := of_decide_eq_true h
theorem leaf_inst {v x : Tm} {e : Int} (h : hitB x e = false) : nK (instF v x e) = 0 := by
  unfold instF
  rw [if_neg (by rw [h]; decide)]
  split
  · rfl
  · exact nK_nodeP x
theorem size_lift (fr by_ : Int) (t : Tm) (b : Int) : sizeT (rebP (liftF fr by_) t b) = sizeT t := by
  have h1 := reb_size (F := liftF fr by_) (k := 0) (t := t) (b := b) (all_of _ _ (fun x e hl => by rw [size_leaf (leaf_lift fr by_ x e)]; omega) t (Nat.lt_succ_self _) b)
  omega
theorem inst_size (v t : Tm) (b : Int) : sizeT (rebP (instF v) t b) = sizeT t + (sizeT v - 1) * occT t b :=
  reb_size (all_of _ _ (fun x e hl => by
    cases hh : hitB x e with
    | true =>
      have hk := hit_kind hh
      rw [instF_hit hk.1 hk.2, if_pos rfl]
      show sizeT (rebP (liftF 0 e) v 0) = _
      rw [size_lift]
      have := size_pos v
      omega
    | false => rw [size_leaf (leaf_inst hh), if_neg (by decide)]; omega) t (Nat.lt_succ_self _) b)
theorem inst_tree {t v : Tm} (ht : okT t) (hv : okT v) (h : okT (rebP (instF v) t 0)) : InstT t v = rebP (instF v) t 0 := by
  have h1 := inst_size v t 0
  have h2 := h.1
  have hp := size_pos v
  rw [InstT_ok ht hv, fitT_ok h]
  unfold instS
  rw [h1] at h2
  rw [Int.mul_comm]
  have : ((sizeT v : Int) - 1) * (occT t 0 : Int) = (((sizeT v - 1) * occT t 0 : Nat) : Int) := by
    rw [Int.natCast_mul, Int.natCast_sub hp]; rfl
  omega
theorem closed_inst {t v : Tm} (hw : Whole t) (hv : Whole v) (h0 : LooseT t = 0) : SameT (InstT t v) t = true := by
  rw [LooseT_ok hw.ok] at h0
  have e : rebP (instF v) t 0 = canT t 0 := reb_congr (((hw.num 0).both (all_lm _ t (Nat.lt_succ_self _) 0)).mono fun x e _ h => by
    by_cases k : x.kind = 1
    · have h1 := h.1 k
      have h2 := h.2
      rw [lv_is k, h0] at h2
      split at h2
      · omega
      · exact instF_near (by omega)
    · exact instF_no k)
  exact sameT_can hw (by rw [inst_tree hw.ok hv.ok (by rw [e]; exact ok_can hw.ok), e])
end Go.Proofs.Ytdboloabpjmgaaa

/-! TClR -/
namespace Go.Proofs.Ytdboloabpjmgaaa
open Go.RowKit Go.Proofs.YtdboloabpjmgaaaW.PrintWords Go.RegionInvYtdboloabpjmgaaa Go.RegionEYtdboloabpjmgaaa
set_option linter.unusedVariables false

def tc6_ops : List Oper := [
  { dst := some 28, op := Go.Op.load 28 (Go.Operand.tmp 4), type := 28, pos := "more.go:19", after := #[], guard := none },
  { dst := some 29, op := Go.Op.move (Go.Operand.tmp 2), type := 3, pos := "more.go:19", after := #[], guard := none },
  { dst := some 30, op := Go.Op.move (Go.Operand.tmp 3), type := 3, pos := "more.go:19", after := #[], guard := none },
  { dst := some 31, op := Go.Op.call { callee := Go.Callee.value (Go.Operand.func 23), args := #[Go.Operand.tmp 28, Go.Operand.tmp 29, Go.Operand.tmp 30], argTypes := #[28, 3, 3] }, type := 28, pos := "more.go:19", after := #[{ on := 0, ground := Go.Ground.data }, { on := 1, ground := Go.Ground.data }, { on := 2, ground := Go.Ground.data }], guard := none },
  { dst := some 32, op := Go.Op.load 28 (Go.Operand.tmp 4), type := 28, pos := "more.go:19", after := #[], guard := none },
  { dst := some 33, op := Go.Op.call { callee := Go.Callee.value (Go.Operand.func 48), args := #[Go.Operand.tmp 31, Go.Operand.tmp 32], argTypes := #[28, 28] }, type := 4, pos := "more.go:19", after := #[{ on := 3, ground := Go.Ground.data }, { on := 4, ground := Go.Ground.data }, { on := 3, ground := Go.Ground.chain }], guard := none },
  { dst := some 34, op := Go.Op.unOp Go.UnOp.not 4 (Go.Operand.tmp 33), type := 4, pos := "more.go:19", after := #[{ on := 5, ground := Go.Ground.data }], guard := none }]
def tc6_F (w0 : World) (B : Nat) (ga : Nat) (pa : Pl) (ta : Tm) (fr by_ : Int) : Nat → (Nat → Value) → Value → World → (Nat → Prop) → Prop := fun rix => match rix with
  | 0 => fun _ v _ _ => v = tmV pa ta
  | 1 => fun _ v _ _ => v = .int .i64 fr
  | 2 => fun _ v _ _ => v = .int .i64 by_
  | 3 => fun τ v w O => TmO (fun k => k < B) (LiftT ta fr by_) v w O
  | 4 => fun _ v _ _ => v = tmV pa ta
  | 5 => fun _ v _ _ => v = .bool true
  | 6 => fun _ v _ _ => v = .bool false
  | _ => fun _ _ _ _ => True
def tc6_C : Nat → List Nat := fun rix => match rix with
  | _ => []
theorem tc6_nw2 : nwB tc6_ops.toArray 2 = true := by kernel_rfl
theorem tc6_nw3 : nwB tc6_ops.toArray 3 = true := by kernel_rfl
theorem tc6_nw4 : nwB tc6_ops.toArray 4 = true := by kernel_rfl
set_option maxRecDepth 100000 in
set_option maxHeartbeats 8000000 in
theorem tc6_obs (w0 : World) (B : Nat) (ga : Nat) (pa : Pl) (ta : Tm) (fr by_ : Int) (hB : B ≤ w0.heap.size) (hx4 : w0.heap[ga]? = some (tmO pa ta)) (hin4 : TmIn w0 B pa ta) (hs : SameT (LiftT ta fr by_) ta = true) (Q : Exit → Act → World → Prop) (a0 : Act) (hi2 : a0.tmps.getD 2 undef = .int .i64 fr) (hi3 : a0.tmps.getD 3 undef = .int .i64 by_) (hi4 : a0.tmps.getD 4 undef = .pointer (some ⟨ga, 0, none⟩)) :
    ObsE Try.prog tc6_ops.toArray Q (est2 0 0 (fun _ => False) (fun _ => False)) tc6_C (tc6_F w0 B ga pa ta fr by_) a0 w0 tc6_ops.toArray.toList 0 := by
  have nw2 := tc6_nw2
  have nw3 := tc6_nw3
  have nw4 := tc6_nw4
  refine ⟨?_, ?_, ?_, ?_, ?_, ?_, ?_, trivial⟩
  · refine ⟨⟨fun τ => stableE_det _, leans_not⟩, ?_⟩
    intro a w O hk
    have e4 : a.eval (.tmp 4) = .pointer (some ⟨ga, 0, none⟩) := (hk.init 4 (initialB_of_nw nw4)).trans hi4
    have x4 := hk.world.still hx4 (fun ⟨_, h⟩ => h.elim And.right And.right)
    have hfx : ∀ k, k < B → w.heap[k]? = w0.heap[k]? := fun k hk' => hk.fix k ((fun k hk' => est2_fix (Nat.lt_of_lt_of_le hk' hB) (fun e => e.elim) (fun e => e.elim)) k hk')
    have hsz := hk.world.size
    have y4 := hin4.same (w' := w) (fun k hk' _ => hfx k hk')
    exact obE_loadRow rfl e4 x4 Try.underlying28 rfl (by kernel_rfl) (wanted_none rfl) rfl
  · refine ⟨⟨fun τ => stableE_det _, leans_not⟩, ?_⟩
    intro a w O hk
    have e2 : a.eval (.tmp 2) = .int .i64 fr := (hk.init 2 (initialB_of_nw nw2)).trans hi2
    exact toE (ob_move rfl e2 (wanted_none rfl) rfl)
  · refine ⟨⟨fun τ => stableE_det _, leans_not⟩, ?_⟩
    intro a w O hk
    have e3 : a.eval (.tmp 3) = .int .i64 by_ := (hk.init 3 (initialB_of_nw nw3)).trans hi3
    exact toE (ob_move rfl e3 (wanted_none rfl) rfl)
  · refine ⟨⟨fun τ => stableE_tm (fun k hk' => est2_fix (Nat.lt_of_lt_of_le hk' hB) (fun e => e.elim) (fun e => e.elim)), leans_not⟩, ?_⟩
    intro a w O hk
    have e28 : a.eval (.tmp 28) = tmV pa ta := hk.fact 0 _ 28 rfl rfl rfl rfl
    have e29 : a.eval (.tmp 29) = .int .i64 fr := hk.fact 1 _ 29 rfl rfl rfl rfl
    have e30 : a.eval (.tmp 30) = .int .i64 by_ := hk.fact 2 _ 30 rfl rfl rfl rfl
    have x4 := hk.world.still hx4 (fun ⟨_, h⟩ => h.elim And.right And.right)
    have hfx : ∀ k, k < B → w.heap[k]? = w0.heap[k]? := fun k hk' => hk.fix k ((fun k hk' => est2_fix (Nat.lt_of_lt_of_le hk' hB) (fun e => e.elim) (fun e => e.elim)) k hk')
    have hsz := hk.world.size
    have y4 := hin4.same (w' := w) (fun k hk' _ => hfx k hk')
    exact obE_tmCall #[tmV pa ta, .int .i64 fr, .int .i64 by_] rfl rfl rfl rfl (by simp only [List.map_cons, List.map_nil]; rw [e28, e29, e30]; try rfl) (wanted_none rfl) ((Lift_calls B (fr) (by_) ta pa w (Nat.le_trans hB hsz) y4).mono fun e w' ⟨q9, h1, h2, h3⟩ => ⟨q9, h1, h2.mono fun k h _ => h.imp (fun h => .inl h) id, h3⟩)
  · refine ⟨⟨fun τ => stableE_det _, leans_not⟩, ?_⟩
    intro a w O hk
    have e4 : a.eval (.tmp 4) = .pointer (some ⟨ga, 0, none⟩) := (hk.init 4 (initialB_of_nw nw4)).trans hi4
    have x4 := hk.world.still hx4 (fun ⟨_, h⟩ => h.elim And.right And.right)
    have hfx : ∀ k, k < B → w.heap[k]? = w0.heap[k]? := fun k hk' => hk.fix k ((fun k hk' => est2_fix (Nat.lt_of_lt_of_le hk' hB) (fun e => e.elim) (fun e => e.elim)) k hk')
    have hsz := hk.world.size
    have y4 := hin4.same (w' := w) (fun k hk' _ => hfx k hk')
    exact obE_loadRow rfl e4 x4 Try.underlying28 rfl (by kernel_rfl) (wanted_none rfl) rfl
  · refine ⟨⟨fun τ => stableE_det _, leans_not⟩, ?_⟩
    intro a w O hk
    have f31 := hk.fact 3 _ 31 rfl rfl rfl rfl
    have g31 := hk.owns 3 rfl rfl
    have e32 : a.eval (.tmp 32) = tmV pa ta := hk.fact 4 _ 32 rfl rfl rfl rfl
    have x4 := hk.world.still hx4 (fun ⟨_, h⟩ => h.elim And.right And.right)
    have hfx : ∀ k, k < B → w.heap[k]? = w0.heap[k]? := fun k hk' => hk.fix k ((fun k hk' => est2_fix (Nat.lt_of_lt_of_le hk' hB) (fun e => e.elim) (fun e => e.elim)) k hk')
    have hsz := hk.world.size
    have y4 := hin4.same (w' := w) (fun k hk' _ => hfx k hk')
    obtain ⟨q31, z31, h31⟩ := f31
    replace z31 : a.eval (.tmp 31) = _ := z31
    exact obE_callV #[tmV q31 (LiftT ta fr by_), tmV pa ta] rfl rfl rfl rfl (by simp only [List.map_cons, List.map_nil]; rw [z31, e32]; try rfl) (wanted_none rfl) ((tSame_calls (LiftT ta fr by_) ta q31 pa w (TmS.all h31) (TmIn.mono y4 (Nat.le_trans hB hsz))).mono fun e w' h => ⟨by rw [h.1, hs], h.2⟩)
  · refine ⟨⟨fun τ => stableE_det _, leans_not⟩, ?_⟩
    intro a w O hk
    have e33 : a.eval (.tmp 33) = .bool true := hk.fact 5 _ 33 rfl rfl rfl rfl
    have x4 := hk.world.still hx4 (fun ⟨_, h⟩ => h.elim And.right And.right)
    have hfx : ∀ k, k < B → w.heap[k]? = w0.heap[k]? := fun k hk' => hk.fix k ((fun k hk' => est2_fix (Nat.lt_of_lt_of_le hk' hB) (fun e => e.elim) (fun e => e.elim)) k hk')
    have hsz := hk.world.size
    have y4 := hin4.same (w' := w) (fun k hk' _ => hfx k hk')
    exact obE_run (wanted_none rfl) (by unfold execOp; simp only []; rw [e33]; go_simp) rfl
set_option maxRecDepth 100000 in
set_option maxHeartbeats 8000000 in
theorem tc6_region {Q : Exit → Act → World → Prop} {id : Nat} (w0 : World) (B : Nat) (ga : Nat) (pa : Pl) (ta : Tm) (fr by_ : Int) {s0 s1 s5 s6 s7 s8 s9 s10 s11 s12 s13 s14 s15 s16 s17 s18 s19 s20 s21 s22 s23 s24 s25 s26 s27 s28 s29 s30 s31 s32 s33 s34 s35 s36 s37 s38 s39 s40 s41 s42 s43 s44 s45 s46 s47 s48 s49 s50 s51 s52 s53 s54 s55 s56 s57 s58 s59 s60 s61 s62 : Value} (hB : B ≤ w0.heap.size) (hx4 : w0.heap[ga]? = some (tmO pa ta)) (hin4 : TmIn w0 B pa ta) (hs : SameT (LiftT ta fr by_) ta = true)
    (hend : ∀ (w' : World) (u31 : Value) (O3 : Nat → Prop), Chg (fun k => False ∨ False) w0 w' → (TmO (fun k => k < B) (LiftT ta fr by_) u31 w' O3) → (∀ k, O3 k → k < w'.heap.size ∧ ¬ Fix w0 (est2 0 0 (fun _ => False) (fun _ => False)) k) → Q .normal { tmps := (s0 :: s1 :: (.int .i64 fr : Value) :: (.int .i64 by_ : Value) :: (.pointer (some ⟨ga, 0, none⟩) : Value) :: s5 :: s6 :: s7 :: s8 :: s9 :: s10 :: s11 :: s12 :: s13 :: s14 :: s15 :: s16 :: s17 :: s18 :: s19 :: s20 :: s21 :: s22 :: s23 :: s24 :: s25 :: s26 :: s27 :: (tmV pa ta : Value) :: (.int .i64 fr : Value) :: (.int .i64 by_ : Value) :: u31 :: (tmV pa ta : Value) :: (.bool true : Value) :: (.bool false : Value) :: s35 :: s36 :: s37 :: s38 :: s39 :: s40 :: s41 :: s42 :: s43 :: s44 :: s45 :: s46 :: s47 :: s48 :: s49 :: s50 :: s51 :: s52 :: s53 :: s54 :: s55 :: s56 :: s57 :: s58 :: s59 :: s60 :: s61 :: s62 :: ([] : List Value)).toArray, defers := [] } w') :
    (Code.region id tc6_ops.toArray true).wp Try.prog Q { tmps := (s0 :: s1 :: (.int .i64 fr : Value) :: (.int .i64 by_ : Value) :: (.pointer (some ⟨ga, 0, none⟩) : Value) :: s5 :: s6 :: s7 :: s8 :: s9 :: s10 :: s11 :: s12 :: s13 :: s14 :: s15 :: s16 :: s17 :: s18 :: s19 :: s20 :: s21 :: s22 :: s23 :: s24 :: s25 :: s26 :: s27 :: s28 :: s29 :: s30 :: s31 :: s32 :: s33 :: s34 :: s35 :: s36 :: s37 :: s38 :: s39 :: s40 :: s41 :: s42 :: s43 :: s44 :: s45 :: s46 :: s47 :: s48 :: s49 :: s50 :: s51 :: s52 :: s53 :: s54 :: s55 :: s56 :: s57 :: s58 :: s59 :: s60 :: s61 :: s62 :: ([] : List Value)).toArray, defers := [] } w0 := by
  refine wp_region_est (by kernel_rfl) (est2 0 0 (fun _ => False) (fun _ => False)) tc6_C (tc6_F w0 B ga pa ta fr by_) (est2_dis (fun _ h _ => h)) (est2_range (fun _ h => h.elim) (fun _ h => h.elim)) (by rfl) (by kernel_rfl) (tc6_obs w0.drew B ga pa ta fr by_ hB hx4 (TmS.same hin4 (fun _ _ _ => rfl)) hs _ _ rfl rfl rfl) ?_
  intro a w' O hd hs hb hf hf2 ha hsame
  have hx : ∀ (qi : Nat) (qv : Value), nwB tc6_ops.toArray qi = true → (s0 :: s1 :: (.int .i64 fr : Value) :: (.int .i64 by_ : Value) :: (.pointer (some ⟨ga, 0, none⟩) : Value) :: s5 :: s6 :: s7 :: s8 :: s9 :: s10 :: s11 :: s12 :: s13 :: s14 :: s15 :: s16 :: s17 :: s18 :: s19 :: s20 :: s21 :: s22 :: s23 :: s24 :: s25 :: s26 :: s27 :: s28 :: s29 :: s30 :: s31 :: s32 :: s33 :: s34 :: s35 :: s36 :: s37 :: s38 :: s39 :: s40 :: s41 :: s42 :: s43 :: s44 :: s45 :: s46 :: s47 :: s48 :: s49 :: s50 :: s51 :: s52 :: s53 :: s54 :: s55 :: s56 :: s57 :: s58 :: s59 :: s60 :: s61 :: s62 :: ([] : List Value)).toArray.getD qi undef = qv → a.tmps.getD qi undef = qv := fun qi qv h e => (hsame qi (nwB.spec h)).trans e
  have x0 := hx 0 s0 (by kernel_rfl) rfl
  have x1 := hx 1 s1 (by kernel_rfl) rfl
  have x2 := hx 2 (.int .i64 fr) (by kernel_rfl) rfl
  have x3 := hx 3 (.int .i64 by_) (by kernel_rfl) rfl
  have x4 := hx 4 (.pointer (some ⟨ga, 0, none⟩)) (by kernel_rfl) rfl
  have x5 := hx 5 s5 (by kernel_rfl) rfl
  have x6 := hx 6 s6 (by kernel_rfl) rfl
  have x7 := hx 7 s7 (by kernel_rfl) rfl
  have x8 := hx 8 s8 (by kernel_rfl) rfl
  have x9 := hx 9 s9 (by kernel_rfl) rfl
  have x10 := hx 10 s10 (by kernel_rfl) rfl
  have x11 := hx 11 s11 (by kernel_rfl) rfl
  have x12 := hx 12 s12 (by kernel_rfl) rfl
  have x13 := hx 13 s13 (by kernel_rfl) rfl
  have x14 := hx 14 s14 (by kernel_rfl) rfl
  have x15 := hx 15 s15 (by kernel_rfl) rfl
  have x16 := hx 16 s16 (by kernel_rfl) rfl
  have x17 := hx 17 s17 (by kernel_rfl) rfl
  have x18 := hx 18 s18 (by kernel_rfl) rfl
  have x19 := hx 19 s19 (by kernel_rfl) rfl
  have x20 := hx 20 s20 (by kernel_rfl) rfl
  have x21 := hx 21 s21 (by kernel_rfl) rfl
  have x22 := hx 22 s22 (by kernel_rfl) rfl
  have x23 := hx 23 s23 (by kernel_rfl) rfl
  have x24 := hx 24 s24 (by kernel_rfl) rfl
  have x25 := hx 25 s25 (by kernel_rfl) rfl
  have x26 := hx 26 s26 (by kernel_rfl) rfl
  have x27 := hx 27 s27 (by kernel_rfl) rfl
  have x28 : a.tmps.getD 28 undef = tmV pa ta := (hf 0 _ 28 rfl rfl (by decide)).1
  have x29 : a.tmps.getD 29 undef = .int .i64 fr := (hf 1 _ 29 rfl rfl (by decide)).1
  have x30 : a.tmps.getD 30 undef = .int .i64 by_ := (hf 2 _ 30 rfl rfl (by decide)).1
  have x32 : a.tmps.getD 32 undef = tmV pa ta := (hf 4 _ 32 rfl rfl (by decide)).1
  have x33 : a.tmps.getD 33 undef = .bool true := (hf 5 _ 33 rfl rfl (by decide)).1
  have x34 : a.tmps.getD 34 undef = .bool false := (hf 6 _ 34 rfl rfl (by decide)).1
  have x35 := hx 35 s35 (by kernel_rfl) rfl
  have x36 := hx 36 s36 (by kernel_rfl) rfl
  have x37 := hx 37 s37 (by kernel_rfl) rfl
  have x38 := hx 38 s38 (by kernel_rfl) rfl
  have x39 := hx 39 s39 (by kernel_rfl) rfl
  have x40 := hx 40 s40 (by kernel_rfl) rfl
  have x41 := hx 41 s41 (by kernel_rfl) rfl
  have x42 := hx 42 s42 (by kernel_rfl) rfl
  have x43 := hx 43 s43 (by kernel_rfl) rfl
  have x44 := hx 44 s44 (by kernel_rfl) rfl
  have x45 := hx 45 s45 (by kernel_rfl) rfl
  have x46 := hx 46 s46 (by kernel_rfl) rfl
  have x47 := hx 47 s47 (by kernel_rfl) rfl
  have x48 := hx 48 s48 (by kernel_rfl) rfl
  have x49 := hx 49 s49 (by kernel_rfl) rfl
  have x50 := hx 50 s50 (by kernel_rfl) rfl
  have x51 := hx 51 s51 (by kernel_rfl) rfl
  have x52 := hx 52 s52 (by kernel_rfl) rfl
  have x53 := hx 53 s53 (by kernel_rfl) rfl
  have x54 := hx 54 s54 (by kernel_rfl) rfl
  have x55 := hx 55 s55 (by kernel_rfl) rfl
  have x56 := hx 56 s56 (by kernel_rfl) rfl
  have x57 := hx 57 s57 (by kernel_rfl) rfl
  have x58 := hx 58 s58 (by kernel_rfl) rfl
  have x59 := hx 59 s59 (by kernel_rfl) rfl
  have x60 := hx 60 s60 (by kernel_rfl) rfl
  have x61 := hx 61 s61 (by kernel_rfl) rfl
  have x62 := hx 62 s62 (by kernel_rfl) rfl
  have hl : a.tmps = (s0 :: s1 :: (.int .i64 fr : Value) :: (.int .i64 by_ : Value) :: (.pointer (some ⟨ga, 0, none⟩) : Value) :: s5 :: s6 :: s7 :: s8 :: s9 :: s10 :: s11 :: s12 :: s13 :: s14 :: s15 :: s16 :: s17 :: s18 :: s19 :: s20 :: s21 :: s22 :: s23 :: s24 :: s25 :: s26 :: s27 :: (tmV pa ta : Value) :: (.int .i64 fr : Value) :: (.int .i64 by_ : Value) :: (a.tmps.getD 31 undef : Value) :: (tmV pa ta : Value) :: (.bool true : Value) :: (.bool false : Value) :: s35 :: s36 :: s37 :: s38 :: s39 :: s40 :: s41 :: s42 :: s43 :: s44 :: s45 :: s46 :: s47 :: s48 :: s49 :: s50 :: s51 :: s52 :: s53 :: s54 :: s55 :: s56 :: s57 :: s58 :: s59 :: s60 :: s61 :: s62 :: ([] : List Value)).toArray := by
    have h := lit a.tmps 63 hs
    have e : ((List.range 63).map (fun i => a.tmps.getD i undef)).toArray = ((a.tmps.getD 0 undef : Value) :: (a.tmps.getD 1 undef : Value) :: (a.tmps.getD 2 undef : Value) :: (a.tmps.getD 3 undef : Value) :: (a.tmps.getD 4 undef : Value) :: (a.tmps.getD 5 undef : Value) :: (a.tmps.getD 6 undef : Value) :: (a.tmps.getD 7 undef : Value) :: (a.tmps.getD 8 undef : Value) :: (a.tmps.getD 9 undef : Value) :: (a.tmps.getD 10 undef : Value) :: (a.tmps.getD 11 undef : Value) :: (a.tmps.getD 12 undef : Value) :: (a.tmps.getD 13 undef : Value) :: (a.tmps.getD 14 undef : Value) :: (a.tmps.getD 15 undef : Value) :: (a.tmps.getD 16 undef : Value) :: (a.tmps.getD 17 undef : Value) :: (a.tmps.getD 18 undef : Value) :: (a.tmps.getD 19 undef : Value) :: (a.tmps.getD 20 undef : Value) :: (a.tmps.getD 21 undef : Value) :: (a.tmps.getD 22 undef : Value) :: (a.tmps.getD 23 undef : Value) :: (a.tmps.getD 24 undef : Value) :: (a.tmps.getD 25 undef : Value) :: (a.tmps.getD 26 undef : Value) :: (a.tmps.getD 27 undef : Value) :: (a.tmps.getD 28 undef : Value) :: (a.tmps.getD 29 undef : Value) :: (a.tmps.getD 30 undef : Value) :: (a.tmps.getD 31 undef : Value) :: (a.tmps.getD 32 undef : Value) :: (a.tmps.getD 33 undef : Value) :: (a.tmps.getD 34 undef : Value) :: (a.tmps.getD 35 undef : Value) :: (a.tmps.getD 36 undef : Value) :: (a.tmps.getD 37 undef : Value) :: (a.tmps.getD 38 undef : Value) :: (a.tmps.getD 39 undef : Value) :: (a.tmps.getD 40 undef : Value) :: (a.tmps.getD 41 undef : Value) :: (a.tmps.getD 42 undef : Value) :: (a.tmps.getD 43 undef : Value) :: (a.tmps.getD 44 undef : Value) :: (a.tmps.getD 45 undef : Value) :: (a.tmps.getD 46 undef : Value) :: (a.tmps.getD 47 undef : Value) :: (a.tmps.getD 48 undef : Value) :: (a.tmps.getD 49 undef : Value) :: (a.tmps.getD 50 undef : Value) :: (a.tmps.getD 51 undef : Value) :: (a.tmps.getD 52 undef : Value) :: (a.tmps.getD 53 undef : Value) :: (a.tmps.getD 54 undef : Value) :: (a.tmps.getD 55 undef : Value) :: (a.tmps.getD 56 undef : Value) :: (a.tmps.getD 57 undef : Value) :: (a.tmps.getD 58 undef : Value) :: (a.tmps.getD 59 undef : Value) :: (a.tmps.getD 60 undef : Value) :: (a.tmps.getD 61 undef : Value) :: (a.tmps.getD 62 undef : Value) :: ([] : List Value)).toArray := rfl
    rw [e, x0, x1, x2, x3, x4, x5, x6, x7, x8, x9, x10, x11, x12, x13, x14, x15, x16, x17, x18, x19, x20, x21, x22, x23, x24, x25, x26, x27, x28, x29, x30, x32, x33, x34, x35, x36, x37, x38, x39, x40, x41, x42, x43, x44, x45, x46, x47, x48, x49, x50, x51, x52, x53, x54, x55, x56, x57, x58, x59, x60, x61, x62] at h
    exact h
  obtain ⟨tmps, defers⟩ := a
  obtain rfl : defers = [] := hd
  have hl' : tmps = _ := hl
  rw [hl']
  have hb' := est2_chg hb
  exact hend w' _ (O 3) ⟨hb'.os, hb'.tape, hb'.output, hb'.size, hb'.block⟩ (hf 3 _ 31 rfl rfl (by decide)).1 (hf 3 _ 31 rfl rfl (by decide)).2

def tc10_ops : List Oper := [
  { dst := some 48, op := Go.Op.load 28 (Go.Operand.tmp 4), type := 28, pos := "more.go:25", after := #[], guard := none },
  { dst := some 49, op := Go.Op.load 28 (Go.Operand.tmp 5), type := 28, pos := "more.go:25", after := #[], guard := none },
  { dst := some 50, op := Go.Op.call { callee := Go.Callee.value (Go.Operand.func 17), args := #[Go.Operand.tmp 48, Go.Operand.tmp 49], argTypes := #[28, 28] }, type := 28, pos := "more.go:25", after := #[{ on := 0, ground := Go.Ground.data }, { on := 1, ground := Go.Ground.data }], guard := none },
  { dst := some 51, op := Go.Op.load 28 (Go.Operand.tmp 4), type := 28, pos := "more.go:25", after := #[], guard := none },
  { dst := some 52, op := Go.Op.call { callee := Go.Callee.value (Go.Operand.func 48), args := #[Go.Operand.tmp 50, Go.Operand.tmp 51], argTypes := #[28, 28] }, type := 4, pos := "more.go:25", after := #[{ on := 2, ground := Go.Ground.data }, { on := 3, ground := Go.Ground.data }, { on := 2, ground := Go.Ground.chain }], guard := none },
  { dst := some 53, op := Go.Op.move (Go.Operand.tmp 52), type := 4, pos := "more.go:25", after := #[{ on := 4, ground := Go.Ground.data }, { on := 4, ground := Go.Ground.chain }], guard := none },
  { dst := some 54, op := Go.Op.load 28 (Go.Operand.tmp 4), type := 28, pos := "more.go:25", after := #[{ on := 5, ground := Go.Ground.guard }], guard := some (5, true) },
  { dst := some 55, op := Go.Op.move (Go.Operand.tmp 3), type := 3, pos := "more.go:25", after := #[{ on := 5, ground := Go.Ground.guard }], guard := some (5, true) },
  { dst := some 56, op := Go.Op.call { callee := Go.Callee.value (Go.Operand.func 23), args := #[Go.Operand.tmp 54, Go.Operand.const (Go.Value.int Go.IntKind.i64 0), Go.Operand.tmp 55], argTypes := #[28, 3, 3] }, type := 28, pos := "more.go:25", after := #[{ on := 6, ground := Go.Ground.data }, { on := 7, ground := Go.Ground.data }, { on := 5, ground := Go.Ground.chain }, { on := 5, ground := Go.Ground.guard }], guard := some (5, true) },
  { dst := some 57, op := Go.Op.load 28 (Go.Operand.tmp 4), type := 28, pos := "more.go:25", after := #[{ on := 5, ground := Go.Ground.guard }], guard := some (5, true) },
  { dst := some 58, op := Go.Op.call { callee := Go.Callee.value (Go.Operand.func 48), args := #[Go.Operand.tmp 56, Go.Operand.tmp 57], argTypes := #[28, 28] }, type := 4, pos := "more.go:25", after := #[{ on := 8, ground := Go.Ground.data }, { on := 9, ground := Go.Ground.data }, { on := 8, ground := Go.Ground.chain }, { on := 5, ground := Go.Ground.guard }], guard := some (5, true) },
  { dst := some 59, op := Go.Op.pick (Go.Operand.tmp 53) (Go.Operand.tmp 58) (Go.Operand.const (Go.Value.bool false)), type := 4, pos := "more.go:25", after := #[{ on := 5, ground := Go.Ground.data }, { on := 10, ground := Go.Ground.data }], guard := none },
  { dst := some 60, op := Go.Op.move (Go.Operand.tmp 59), type := 4, pos := "more.go:25", after := #[{ on := 11, ground := Go.Ground.data }, { on := 10, ground := Go.Ground.chain }], guard := none },
  { dst := some 61, op := Go.Op.call { callee := Go.Callee.value (Go.Operand.func 25), args := #[], argTypes := #[] }, type := 4, pos := "more.go:25", after := #[{ on := 12, ground := Go.Ground.chain }, { on := 12, ground := Go.Ground.guard }], guard := some (12, true) },
  { dst := some 62, op := Go.Op.pick (Go.Operand.tmp 60) (Go.Operand.tmp 61) (Go.Operand.const (Go.Value.bool false)), type := 4, pos := "more.go:25", after := #[{ on := 12, ground := Go.Ground.data }, { on := 13, ground := Go.Ground.data }], guard := none },
  { dst := some 8, op := Go.Op.assign (Go.Operand.tmp 62), type := 4, pos := "more.go:25", after := #[{ on := 14, ground := Go.Ground.data }, { on := 13, ground := Go.Ground.chain }, { on := 0, ground := Go.Ground.phase }, { on := 1, ground := Go.Ground.phase }, { on := 2, ground := Go.Ground.phase }, { on := 3, ground := Go.Ground.phase }, { on := 4, ground := Go.Ground.phase }, { on := 5, ground := Go.Ground.phase }, { on := 6, ground := Go.Ground.phase }, { on := 7, ground := Go.Ground.phase }, { on := 8, ground := Go.Ground.phase }, { on := 9, ground := Go.Ground.phase }, { on := 10, ground := Go.Ground.phase }, { on := 11, ground := Go.Ground.phase }, { on := 12, ground := Go.Ground.phase }, { on := 13, ground := Go.Ground.phase }, { on := 14, ground := Go.Ground.phase }], guard := none }]
def tc10_F (w0 : World) (B : Nat) (ga : Nat) (pa : Pl) (ta : Tm) (gb : Nat) (pb : Pl) (tb : Tm) (by_ : Int) : Nat → (Nat → Value) → Value → World → (Nat → Prop) → Prop := fun rix => match rix with
  | 0 => fun _ v _ _ => v = tmV pa ta
  | 1 => fun _ v _ _ => v = tmV pb tb
  | 2 => fun τ v w O => TmO (fun k => k < B) (InstT ta tb) v w O
  | 3 => fun _ v _ _ => v = tmV pa ta
  | 4 => fun _ v _ _ => v = .bool true
  | 5 => fun _ v _ _ => v = .bool true
  | 6 => fun _ v _ _ => v = tmV pa ta
  | 7 => fun _ v _ _ => v = .int .i64 by_
  | 8 => fun τ v w O => TmO (fun k => k < B) (LiftT ta 0 by_) v w O
  | 9 => fun _ v _ _ => v = tmV pa ta
  | 10 => fun _ v _ _ => v = .bool true
  | 11 => fun _ v _ _ => v = .bool true
  | 12 => fun _ v _ _ => v = .bool true
  | 13 => fun _ v _ _ => v = .bool true
  | 14 => fun _ v _ _ => v = .bool true
  | 15 => fun _ v _ _ => v = .bool true
  | _ => fun _ _ _ _ => True
def tc10_C : Nat → List Nat := fun rix => match rix with
  | _ => []
theorem tc10_nw3 : nwB tc10_ops.toArray 3 = true := by kernel_rfl
theorem tc10_nw4 : nwB tc10_ops.toArray 4 = true := by kernel_rfl
theorem tc10_nw5 : nwB tc10_ops.toArray 5 = true := by kernel_rfl
set_option maxRecDepth 100000 in
set_option maxHeartbeats 8000000 in
theorem tc10_obs (w0 : World) (B : Nat) (ga : Nat) (pa : Pl) (ta : Tm) (gb : Nat) (pb : Pl) (tb : Tm) (by_ : Int) (hB : B ≤ w0.heap.size) (hx4 : w0.heap[ga]? = some (tmO pa ta)) (hin4 : TmIn w0 B pa ta) (hx5 : w0.heap[gb]? = some (tmO pb tb)) (hin5 : TmIn w0 B pb tb) (hs1 : SameT (InstT ta tb) ta = true) (hs2 : SameT (LiftT ta 0 by_) ta = true) (Q : Exit → Act → World → Prop) (a0 : Act) (hi3 : a0.tmps.getD 3 undef = .int .i64 by_) (hi4 : a0.tmps.getD 4 undef = .pointer (some ⟨ga, 0, none⟩)) (hi5 : a0.tmps.getD 5 undef = .pointer (some ⟨gb, 0, none⟩)) :
    ObsE Try.prog tc10_ops.toArray Q (est2 0 0 (fun _ => False) (fun _ => False)) tc10_C (tc10_F w0 B ga pa ta gb pb tb by_) a0 w0 tc10_ops.toArray.toList 0 := by
  have nw3 := tc10_nw3
  have nw4 := tc10_nw4
  have nw5 := tc10_nw5
  refine ⟨?_, ?_, ?_, ?_, ?_, ?_, ?_, ?_, ?_, ?_, ?_, ?_, ?_, ?_, ?_, ?_, trivial⟩
  · refine ⟨⟨fun τ => stableE_det _, leans_not⟩, ?_⟩
    intro a w O hk
    have e4 : a.eval (.tmp 4) = .pointer (some ⟨ga, 0, none⟩) := (hk.init 4 (initialB_of_nw nw4)).trans hi4
    have x4 := hk.world.still hx4 (fun ⟨_, h⟩ => h.elim And.right And.right)
    have x5 := hk.world.still hx5 (fun ⟨_, h⟩ => h.elim And.right And.right)
    have hfx : ∀ k, k < B → w.heap[k]? = w0.heap[k]? := fun k hk' => hk.fix k ((fun k hk' => est2_fix (Nat.lt_of_lt_of_le hk' hB) (fun e => e.elim) (fun e => e.elim)) k hk')
    have hsz := hk.world.size
    have y4 := hin4.same (w' := w) (fun k hk' _ => hfx k hk')
    have y5 := hin5.same (w' := w) (fun k hk' _ => hfx k hk')
    exact obE_loadRow rfl e4 x4 Try.underlying28 rfl (by kernel_rfl) (wanted_none rfl) rfl
  · refine ⟨⟨fun τ => stableE_det _, leans_not⟩, ?_⟩
    intro a w O hk
    have e5 : a.eval (.tmp 5) = .pointer (some ⟨gb, 0, none⟩) := (hk.init 5 (initialB_of_nw nw5)).trans hi5
    have x4 := hk.world.still hx4 (fun ⟨_, h⟩ => h.elim And.right And.right)
    have x5 := hk.world.still hx5 (fun ⟨_, h⟩ => h.elim And.right And.right)
    have hfx : ∀ k, k < B → w.heap[k]? = w0.heap[k]? := fun k hk' => hk.fix k ((fun k hk' => est2_fix (Nat.lt_of_lt_of_le hk' hB) (fun e => e.elim) (fun e => e.elim)) k hk')
    have hsz := hk.world.size
    have y4 := hin4.same (w' := w) (fun k hk' _ => hfx k hk')
    have y5 := hin5.same (w' := w) (fun k hk' _ => hfx k hk')
    exact obE_loadRow rfl e5 x5 Try.underlying28 rfl (by kernel_rfl) (wanted_none rfl) rfl
  · refine ⟨⟨fun τ => stableE_tm (fun k hk' => est2_fix (Nat.lt_of_lt_of_le hk' hB) (fun e => e.elim) (fun e => e.elim)), leans_not⟩, ?_⟩
    intro a w O hk
    have e48 : a.eval (.tmp 48) = tmV pa ta := hk.fact 0 _ 48 rfl rfl rfl rfl
    have e49 : a.eval (.tmp 49) = tmV pb tb := hk.fact 1 _ 49 rfl rfl rfl rfl
    have x4 := hk.world.still hx4 (fun ⟨_, h⟩ => h.elim And.right And.right)
    have x5 := hk.world.still hx5 (fun ⟨_, h⟩ => h.elim And.right And.right)
    have hfx : ∀ k, k < B → w.heap[k]? = w0.heap[k]? := fun k hk' => hk.fix k ((fun k hk' => est2_fix (Nat.lt_of_lt_of_le hk' hB) (fun e => e.elim) (fun e => e.elim)) k hk')
    have hsz := hk.world.size
    have y4 := hin4.same (w' := w) (fun k hk' _ => hfx k hk')
    have y5 := hin5.same (w' := w) (fun k hk' _ => hfx k hk')
    exact obE_tmCall #[tmV pa ta, tmV pb tb] rfl rfl rfl rfl (by simp only [List.map_cons, List.map_nil]; rw [e48, e49]; try rfl) (wanted_none rfl) ((Inst_calls B ta tb pa pb w (Nat.le_trans hB hsz) y4 y5).mono fun e w' ⟨q9, h1, h2, h3⟩ => ⟨q9, h1, h2.mono fun k h _ => h.imp (fun h => .inl h) id, h3⟩)
  · refine ⟨⟨fun τ => stableE_det _, leans_not⟩, ?_⟩
    intro a w O hk
    have e4 : a.eval (.tmp 4) = .pointer (some ⟨ga, 0, none⟩) := (hk.init 4 (initialB_of_nw nw4)).trans hi4
    have x4 := hk.world.still hx4 (fun ⟨_, h⟩ => h.elim And.right And.right)
    have x5 := hk.world.still hx5 (fun ⟨_, h⟩ => h.elim And.right And.right)
    have hfx : ∀ k, k < B → w.heap[k]? = w0.heap[k]? := fun k hk' => hk.fix k ((fun k hk' => est2_fix (Nat.lt_of_lt_of_le hk' hB) (fun e => e.elim) (fun e => e.elim)) k hk')
    have hsz := hk.world.size
    have y4 := hin4.same (w' := w) (fun k hk' _ => hfx k hk')
    have y5 := hin5.same (w' := w) (fun k hk' _ => hfx k hk')
    exact obE_loadRow rfl e4 x4 Try.underlying28 rfl (by kernel_rfl) (wanted_none rfl) rfl
  · refine ⟨⟨fun τ => stableE_det _, leans_not⟩, ?_⟩
    intro a w O hk
    have f50 := hk.fact 2 _ 50 rfl rfl rfl rfl
    have g50 := hk.owns 2 rfl rfl
    have e51 : a.eval (.tmp 51) = tmV pa ta := hk.fact 3 _ 51 rfl rfl rfl rfl
    have x4 := hk.world.still hx4 (fun ⟨_, h⟩ => h.elim And.right And.right)
    have x5 := hk.world.still hx5 (fun ⟨_, h⟩ => h.elim And.right And.right)
    have hfx : ∀ k, k < B → w.heap[k]? = w0.heap[k]? := fun k hk' => hk.fix k ((fun k hk' => est2_fix (Nat.lt_of_lt_of_le hk' hB) (fun e => e.elim) (fun e => e.elim)) k hk')
    have hsz := hk.world.size
    have y4 := hin4.same (w' := w) (fun k hk' _ => hfx k hk')
    have y5 := hin5.same (w' := w) (fun k hk' _ => hfx k hk')
    obtain ⟨q50, z50, h50⟩ := f50
    replace z50 : a.eval (.tmp 50) = _ := z50
    exact obE_callV #[tmV q50 (InstT ta tb), tmV pa ta] rfl rfl rfl rfl (by simp only [List.map_cons, List.map_nil]; rw [z50, e51]; try rfl) (wanted_none rfl) ((tSame_calls (InstT ta tb) ta q50 pa w (TmS.all h50) (TmIn.mono y4 (Nat.le_trans hB hsz))).mono fun e w' h => ⟨by rw [h.1, hs1], h.2⟩)
  · refine ⟨⟨fun τ => stableE_det _, leans_not⟩, ?_⟩
    intro a w O hk
    have e52 : a.eval (.tmp 52) = .bool true := hk.fact 4 _ 52 rfl rfl rfl rfl
    exact toE (ob_move rfl e52 (wanted_none rfl) rfl)
  · refine ⟨⟨fun τ => stableE_det _, leans_not⟩, ?_⟩
    intro a w O hk
    have e4 : a.eval (.tmp 4) = .pointer (some ⟨ga, 0, none⟩) := (hk.init 4 (initialB_of_nw nw4)).trans hi4
    have e53 : a.eval (.tmp 53) = .bool true := hk.fact 5 _ 53 rfl rfl rfl rfl
    have x4 := hk.world.still hx4 (fun ⟨_, h⟩ => h.elim And.right And.right)
    have x5 := hk.world.still hx5 (fun ⟨_, h⟩ => h.elim And.right And.right)
    have hfx : ∀ k, k < B → w.heap[k]? = w0.heap[k]? := fun k hk' => hk.fix k ((fun k hk' => est2_fix (Nat.lt_of_lt_of_le hk' hB) (fun e => e.elim) (fun e => e.elim)) k hk')
    have hsz := hk.world.size
    have y4 := hin4.same (w' := w) (fun k hk' _ => hfx k hk')
    have y5 := hin5.same (w' := w) (fun k hk' _ => hfx k hk')
    exact obE_loadRow rfl e4 x4 Try.underlying28 rfl (by kernel_rfl) (wanted_of rfl rfl rfl e53) rfl
  · refine ⟨⟨fun τ => stableE_det _, leans_not⟩, ?_⟩
    intro a w O hk
    have e3 : a.eval (.tmp 3) = .int .i64 by_ := (hk.init 3 (initialB_of_nw nw3)).trans hi3
    have e53 : a.eval (.tmp 53) = .bool true := hk.fact 5 _ 53 rfl rfl rfl rfl
    exact toE (ob_move rfl e3 (wanted_of rfl rfl rfl e53) rfl)
  · refine ⟨⟨fun τ => stableE_tm (fun k hk' => est2_fix (Nat.lt_of_lt_of_le hk' hB) (fun e => e.elim) (fun e => e.elim)), leans_not⟩, ?_⟩
    intro a w O hk
    have e54 : a.eval (.tmp 54) = tmV pa ta := hk.fact 6 _ 54 rfl rfl rfl rfl
    have e55 : a.eval (.tmp 55) = .int .i64 by_ := hk.fact 7 _ 55 rfl rfl rfl rfl
    have e53 : a.eval (.tmp 53) = .bool true := hk.fact 5 _ 53 rfl rfl rfl rfl
    have x4 := hk.world.still hx4 (fun ⟨_, h⟩ => h.elim And.right And.right)
    have x5 := hk.world.still hx5 (fun ⟨_, h⟩ => h.elim And.right And.right)
    have hfx : ∀ k, k < B → w.heap[k]? = w0.heap[k]? := fun k hk' => hk.fix k ((fun k hk' => est2_fix (Nat.lt_of_lt_of_le hk' hB) (fun e => e.elim) (fun e => e.elim)) k hk')
    have hsz := hk.world.size
    have y4 := hin4.same (w' := w) (fun k hk' _ => hfx k hk')
    have y5 := hin5.same (w' := w) (fun k hk' _ => hfx k hk')
    exact obE_tmCall #[tmV pa ta, .int .i64 0, .int .i64 by_] rfl rfl rfl rfl (by simp only [List.map_cons, List.map_nil]; rw [e54, e55]; try rfl) (wanted_of rfl rfl rfl e53) ((Lift_calls B (0) (by_) ta pa w (Nat.le_trans hB hsz) y4).mono fun e w' ⟨q9, h1, h2, h3⟩ => ⟨q9, h1, h2.mono fun k h _ => h.imp (fun h => .inl h) id, h3⟩)
  · refine ⟨⟨fun τ => stableE_det _, leans_not⟩, ?_⟩
    intro a w O hk
    have e4 : a.eval (.tmp 4) = .pointer (some ⟨ga, 0, none⟩) := (hk.init 4 (initialB_of_nw nw4)).trans hi4
    have e53 : a.eval (.tmp 53) = .bool true := hk.fact 5 _ 53 rfl rfl rfl rfl
    have x4 := hk.world.still hx4 (fun ⟨_, h⟩ => h.elim And.right And.right)
    have x5 := hk.world.still hx5 (fun ⟨_, h⟩ => h.elim And.right And.right)
    have hfx : ∀ k, k < B → w.heap[k]? = w0.heap[k]? := fun k hk' => hk.fix k ((fun k hk' => est2_fix (Nat.lt_of_lt_of_le hk' hB) (fun e => e.elim) (fun e => e.elim)) k hk')
    have hsz := hk.world.size
    have y4 := hin4.same (w' := w) (fun k hk' _ => hfx k hk')
    have y5 := hin5.same (w' := w) (fun k hk' _ => hfx k hk')
    exact obE_loadRow rfl e4 x4 Try.underlying28 rfl (by kernel_rfl) (wanted_of rfl rfl rfl e53) rfl
  · refine ⟨⟨fun τ => stableE_det _, leans_not⟩, ?_⟩
    intro a w O hk
    have f56 := hk.fact 8 _ 56 rfl rfl rfl rfl
    have g56 := hk.owns 8 rfl rfl
    have e57 : a.eval (.tmp 57) = tmV pa ta := hk.fact 9 _ 57 rfl rfl rfl rfl
    have e53 : a.eval (.tmp 53) = .bool true := hk.fact 5 _ 53 rfl rfl rfl rfl
    have x4 := hk.world.still hx4 (fun ⟨_, h⟩ => h.elim And.right And.right)
    have x5 := hk.world.still hx5 (fun ⟨_, h⟩ => h.elim And.right And.right)
    have hfx : ∀ k, k < B → w.heap[k]? = w0.heap[k]? := fun k hk' => hk.fix k ((fun k hk' => est2_fix (Nat.lt_of_lt_of_le hk' hB) (fun e => e.elim) (fun e => e.elim)) k hk')
    have hsz := hk.world.size
    have y4 := hin4.same (w' := w) (fun k hk' _ => hfx k hk')
    have y5 := hin5.same (w' := w) (fun k hk' _ => hfx k hk')
    obtain ⟨q56, z56, h56⟩ := f56
    replace z56 : a.eval (.tmp 56) = _ := z56
    exact obE_callV #[tmV q56 (LiftT ta 0 by_), tmV pa ta] rfl rfl rfl rfl (by simp only [List.map_cons, List.map_nil]; rw [z56, e57]; try rfl) (wanted_of rfl rfl rfl e53) ((tSame_calls (LiftT ta 0 by_) ta q56 pa w (TmS.all h56) (TmIn.mono y4 (Nat.le_trans hB hsz))).mono fun e w' h => ⟨by rw [h.1, hs2], h.2⟩)
  · refine ⟨⟨fun τ => stableE_det _, leans_not⟩, ?_⟩
    intro a w O hk
    have e53 : a.eval (.tmp 53) = .bool true := hk.fact 5 _ 53 rfl rfl rfl rfl
    have e58 : a.eval (.tmp 58) = .bool true := hk.fact 10 _ 58 rfl rfl rfl rfl
    exact toE (ob_pick rfl e53 e58 (wanted_none rfl) rfl)
  · refine ⟨⟨fun τ => stableE_det _, leans_not⟩, ?_⟩
    intro a w O hk
    have e59 : a.eval (.tmp 59) = .bool true := hk.fact 11 _ 59 rfl rfl rfl rfl
    exact toE (ob_move rfl e59 (wanted_none rfl) rfl)
  · refine ⟨⟨fun τ => stableE_det _, leans_not⟩, ?_⟩
    intro a w O hk
    have e60 : a.eval (.tmp 60) = .bool true := hk.fact 12 _ 60 rfl rfl rfl rfl
    have x4 := hk.world.still hx4 (fun ⟨_, h⟩ => h.elim And.right And.right)
    have x5 := hk.world.still hx5 (fun ⟨_, h⟩ => h.elim And.right And.right)
    have hfx : ∀ k, k < B → w.heap[k]? = w0.heap[k]? := fun k hk' => hk.fix k ((fun k hk' => est2_fix (Nat.lt_of_lt_of_le hk' hB) (fun e => e.elim) (fun e => e.elim)) k hk')
    have hsz := hk.world.size
    have y4 := hin4.same (w' := w) (fun k hk' _ => hfx k hk')
    have y5 := hin5.same (w' := w) (fun k hk' _ => hfx k hk')
    exact obE_callV #[] rfl rfl rfl rfl rfl (wanted_of rfl rfl rfl e60) (awake_calls w)
  · refine ⟨⟨fun τ => stableE_det _, leans_not⟩, ?_⟩
    intro a w O hk
    have e60 : a.eval (.tmp 60) = .bool true := hk.fact 12 _ 60 rfl rfl rfl rfl
    have e61 : a.eval (.tmp 61) = .bool true := hk.fact 13 _ 61 rfl rfl rfl rfl
    exact toE (ob_pick rfl e60 e61 (wanted_none rfl) rfl)
  · refine ⟨⟨fun τ => stableE_det _, leans_not⟩, ?_⟩
    intro a w O hk
    have e62 : a.eval (.tmp 62) = .bool true := hk.fact 14 _ 62 rfl rfl rfl rfl
    exact toE (ob_assign rfl e62 (wanted_none rfl) rfl)
set_option maxRecDepth 100000 in
set_option maxHeartbeats 8000000 in
theorem tc10_region {Q : Exit → Act → World → Prop} {id : Nat} (w0 : World) (B : Nat) (ga : Nat) (pa : Pl) (ta : Tm) (gb : Nat) (pb : Pl) (tb : Tm) (by_ : Int) {s0 s1 s2 s6 s7 s8 s9 s10 s11 s12 s13 s14 s15 s16 s17 s18 s19 s20 s21 s22 s23 s24 s25 s26 s27 s28 s29 s30 s31 s32 s33 s34 s35 s36 s37 s38 s39 s40 s41 s42 s43 s44 s45 s46 s47 s48 s49 s50 s51 s52 s53 s54 s55 s56 s57 s58 s59 s60 s61 s62 : Value} (hB : B ≤ w0.heap.size) (hx4 : w0.heap[ga]? = some (tmO pa ta)) (hin4 : TmIn w0 B pa ta) (hx5 : w0.heap[gb]? = some (tmO pb tb)) (hin5 : TmIn w0 B pb tb) (hs1 : SameT (InstT ta tb) ta = true) (hs2 : SameT (LiftT ta 0 by_) ta = true)
    (hend : ∀ (w' : World) (u50 : Value) (u56 : Value) (O2 : Nat → Prop) (O8 : Nat → Prop), Chg (fun k => False ∨ False) w0 w' → (TmO (fun k => k < B) (InstT ta tb) u50 w' O2) → (∀ k, O2 k → k < w'.heap.size ∧ ¬ Fix w0 (est2 0 0 (fun _ => False) (fun _ => False)) k) → (TmO (fun k => k < B) (LiftT ta 0 by_) u56 w' O8) → (∀ k, O8 k → k < w'.heap.size ∧ ¬ Fix w0 (est2 0 0 (fun _ => False) (fun _ => False)) k) → Q .normal { tmps := (s0 :: s1 :: s2 :: (.int .i64 by_ : Value) :: (.pointer (some ⟨ga, 0, none⟩) : Value) :: (.pointer (some ⟨gb, 0, none⟩) : Value) :: s6 :: s7 :: (.bool true : Value) :: s9 :: s10 :: s11 :: s12 :: s13 :: s14 :: s15 :: s16 :: s17 :: s18 :: s19 :: s20 :: s21 :: s22 :: s23 :: s24 :: s25 :: s26 :: s27 :: s28 :: s29 :: s30 :: s31 :: s32 :: s33 :: s34 :: s35 :: s36 :: s37 :: s38 :: s39 :: s40 :: s41 :: s42 :: s43 :: s44 :: s45 :: s46 :: s47 :: (tmV pa ta : Value) :: (tmV pb tb : Value) :: u50 :: (tmV pa ta : Value) :: (.bool true : Value) :: (.bool true : Value) :: (tmV pa ta : Value) :: (.int .i64 by_ : Value) :: u56 :: (tmV pa ta : Value) :: (.bool true : Value) :: (.bool true : Value) :: (.bool true : Value) :: (.bool true : Value) :: (.bool true : Value) :: ([] : List Value)).toArray, defers := [] } w') :
    (Code.region id tc10_ops.toArray true).wp Try.prog Q { tmps := (s0 :: s1 :: s2 :: (.int .i64 by_ : Value) :: (.pointer (some ⟨ga, 0, none⟩) : Value) :: (.pointer (some ⟨gb, 0, none⟩) : Value) :: s6 :: s7 :: s8 :: s9 :: s10 :: s11 :: s12 :: s13 :: s14 :: s15 :: s16 :: s17 :: s18 :: s19 :: s20 :: s21 :: s22 :: s23 :: s24 :: s25 :: s26 :: s27 :: s28 :: s29 :: s30 :: s31 :: s32 :: s33 :: s34 :: s35 :: s36 :: s37 :: s38 :: s39 :: s40 :: s41 :: s42 :: s43 :: s44 :: s45 :: s46 :: s47 :: s48 :: s49 :: s50 :: s51 :: s52 :: s53 :: s54 :: s55 :: s56 :: s57 :: s58 :: s59 :: s60 :: s61 :: s62 :: ([] : List Value)).toArray, defers := [] } w0 := by
  refine wp_region_est (by kernel_rfl) (est2 0 0 (fun _ => False) (fun _ => False)) tc10_C (tc10_F w0 B ga pa ta gb pb tb by_) (est2_dis (fun _ h _ => h)) (est2_range (fun _ h => h.elim) (fun _ h => h.elim)) (by rfl) (by kernel_rfl) (tc10_obs w0.drew B ga pa ta gb pb tb by_ hB hx4 (TmS.same hin4 (fun _ _ _ => rfl)) hx5 (TmS.same hin5 (fun _ _ _ => rfl)) hs1 hs2 _ _ rfl rfl rfl) ?_
  intro a w' O hd hs hb hf hf2 ha hsame
  have hx : ∀ (qi : Nat) (qv : Value), nwB tc10_ops.toArray qi = true → (s0 :: s1 :: s2 :: (.int .i64 by_ : Value) :: (.pointer (some ⟨ga, 0, none⟩) : Value) :: (.pointer (some ⟨gb, 0, none⟩) : Value) :: s6 :: s7 :: s8 :: s9 :: s10 :: s11 :: s12 :: s13 :: s14 :: s15 :: s16 :: s17 :: s18 :: s19 :: s20 :: s21 :: s22 :: s23 :: s24 :: s25 :: s26 :: s27 :: s28 :: s29 :: s30 :: s31 :: s32 :: s33 :: s34 :: s35 :: s36 :: s37 :: s38 :: s39 :: s40 :: s41 :: s42 :: s43 :: s44 :: s45 :: s46 :: s47 :: s48 :: s49 :: s50 :: s51 :: s52 :: s53 :: s54 :: s55 :: s56 :: s57 :: s58 :: s59 :: s60 :: s61 :: s62 :: ([] : List Value)).toArray.getD qi undef = qv → a.tmps.getD qi undef = qv := fun qi qv h e => (hsame qi (nwB.spec h)).trans e
  have x0 := hx 0 s0 (by kernel_rfl) rfl
  have x1 := hx 1 s1 (by kernel_rfl) rfl
  have x2 := hx 2 s2 (by kernel_rfl) rfl
  have x3 := hx 3 (.int .i64 by_) (by kernel_rfl) rfl
  have x4 := hx 4 (.pointer (some ⟨ga, 0, none⟩)) (by kernel_rfl) rfl
  have x5 := hx 5 (.pointer (some ⟨gb, 0, none⟩)) (by kernel_rfl) rfl
  have x6 := hx 6 s6 (by kernel_rfl) rfl
  have x7 := hx 7 s7 (by kernel_rfl) rfl
  have x8 : a.tmps.getD 8 undef = .bool true := (hf 15 _ 8 rfl rfl (by decide)).1
  have x9 := hx 9 s9 (by kernel_rfl) rfl
  have x10 := hx 10 s10 (by kernel_rfl) rfl
  have x11 := hx 11 s11 (by kernel_rfl) rfl
  have x12 := hx 12 s12 (by kernel_rfl) rfl
  have x13 := hx 13 s13 (by kernel_rfl) rfl
  have x14 := hx 14 s14 (by kernel_rfl) rfl
  have x15 := hx 15 s15 (by kernel_rfl) rfl
  have x16 := hx 16 s16 (by kernel_rfl) rfl
  have x17 := hx 17 s17 (by kernel_rfl) rfl
  have x18 := hx 18 s18 (by kernel_rfl) rfl
  have x19 := hx 19 s19 (by kernel_rfl) rfl
  have x20 := hx 20 s20 (by kernel_rfl) rfl
  have x21 := hx 21 s21 (by kernel_rfl) rfl
  have x22 := hx 22 s22 (by kernel_rfl) rfl
  have x23 := hx 23 s23 (by kernel_rfl) rfl
  have x24 := hx 24 s24 (by kernel_rfl) rfl
  have x25 := hx 25 s25 (by kernel_rfl) rfl
  have x26 := hx 26 s26 (by kernel_rfl) rfl
  have x27 := hx 27 s27 (by kernel_rfl) rfl
  have x28 := hx 28 s28 (by kernel_rfl) rfl
  have x29 := hx 29 s29 (by kernel_rfl) rfl
  have x30 := hx 30 s30 (by kernel_rfl) rfl
  have x31 := hx 31 s31 (by kernel_rfl) rfl
  have x32 := hx 32 s32 (by kernel_rfl) rfl
  have x33 := hx 33 s33 (by kernel_rfl) rfl
  have x34 := hx 34 s34 (by kernel_rfl) rfl
  have x35 := hx 35 s35 (by kernel_rfl) rfl
  have x36 := hx 36 s36 (by kernel_rfl) rfl
  have x37 := hx 37 s37 (by kernel_rfl) rfl
  have x38 := hx 38 s38 (by kernel_rfl) rfl
  have x39 := hx 39 s39 (by kernel_rfl) rfl
  have x40 := hx 40 s40 (by kernel_rfl) rfl
  have x41 := hx 41 s41 (by kernel_rfl) rfl
  have x42 := hx 42 s42 (by kernel_rfl) rfl
  have x43 := hx 43 s43 (by kernel_rfl) rfl
  have x44 := hx 44 s44 (by kernel_rfl) rfl
  have x45 := hx 45 s45 (by kernel_rfl) rfl
  have x46 := hx 46 s46 (by kernel_rfl) rfl
  have x47 := hx 47 s47 (by kernel_rfl) rfl
  have x48 : a.tmps.getD 48 undef = tmV pa ta := (hf 0 _ 48 rfl rfl (by decide)).1
  have x49 : a.tmps.getD 49 undef = tmV pb tb := (hf 1 _ 49 rfl rfl (by decide)).1
  have x51 : a.tmps.getD 51 undef = tmV pa ta := (hf 3 _ 51 rfl rfl (by decide)).1
  have x52 : a.tmps.getD 52 undef = .bool true := (hf 4 _ 52 rfl rfl (by decide)).1
  have x53 : a.tmps.getD 53 undef = .bool true := (hf 5 _ 53 rfl rfl (by decide)).1
  have x54 : a.tmps.getD 54 undef = tmV pa ta := (hf 6 _ 54 rfl rfl (by decide)).1
  have x55 : a.tmps.getD 55 undef = .int .i64 by_ := (hf 7 _ 55 rfl rfl (by decide)).1
  have x57 : a.tmps.getD 57 undef = tmV pa ta := (hf 9 _ 57 rfl rfl (by decide)).1
  have x58 : a.tmps.getD 58 undef = .bool true := (hf 10 _ 58 rfl rfl (by decide)).1
  have x59 : a.tmps.getD 59 undef = .bool true := (hf 11 _ 59 rfl rfl (by decide)).1
  have x60 : a.tmps.getD 60 undef = .bool true := (hf 12 _ 60 rfl rfl (by decide)).1
  have x61 : a.tmps.getD 61 undef = .bool true := (hf 13 _ 61 rfl rfl (by decide)).1
  have x62 : a.tmps.getD 62 undef = .bool true := (hf 14 _ 62 rfl rfl (by decide)).1
  have hl : a.tmps = (s0 :: s1 :: s2 :: (.int .i64 by_ : Value) :: (.pointer (some ⟨ga, 0, none⟩) : Value) :: (.pointer (some ⟨gb, 0, none⟩) : Value) :: s6 :: s7 :: (.bool true : Value) :: s9 :: s10 :: s11 :: s12 :: s13 :: s14 :: s15 :: s16 :: s17 :: s18 :: s19 :: s20 :: s21 :: s22 :: s23 :: s24 :: s25 :: s26 :: s27 :: s28 :: s29 :: s30 :: s31 :: s32 :: s33 :: s34 :: s35 :: s36 :: s37 :: s38 :: s39 :: s40 :: s41 :: s42 :: s43 :: s44 :: s45 :: s46 :: s47 :: (tmV pa ta : Value) :: (tmV pb tb : Value) :: (a.tmps.getD 50 undef : Value) :: (tmV pa ta : Value) :: (.bool true : Value) :: (.bool true : Value) :: (tmV pa ta : Value) :: (.int .i64 by_ : Value) :: (a.tmps.getD 56 undef : Value) :: (tmV pa ta : Value) :: (.bool true : Value) :: (.bool true : Value) :: (.bool true : Value) :: (.bool true : Value) :: (.bool true : Value) :: ([] : List Value)).toArray := by
    have h := lit a.tmps 63 hs
    have e : ((List.range 63).map (fun i => a.tmps.getD i undef)).toArray = ((a.tmps.getD 0 undef : Value) :: (a.tmps.getD 1 undef : Value) :: (a.tmps.getD 2 undef : Value) :: (a.tmps.getD 3 undef : Value) :: (a.tmps.getD 4 undef : Value) :: (a.tmps.getD 5 undef : Value) :: (a.tmps.getD 6 undef : Value) :: (a.tmps.getD 7 undef : Value) :: (a.tmps.getD 8 undef : Value) :: (a.tmps.getD 9 undef : Value) :: (a.tmps.getD 10 undef : Value) :: (a.tmps.getD 11 undef : Value) :: (a.tmps.getD 12 undef : Value) :: (a.tmps.getD 13 undef : Value) :: (a.tmps.getD 14 undef : Value) :: (a.tmps.getD 15 undef : Value) :: (a.tmps.getD 16 undef : Value) :: (a.tmps.getD 17 undef : Value) :: (a.tmps.getD 18 undef : Value) :: (a.tmps.getD 19 undef : Value) :: (a.tmps.getD 20 undef : Value) :: (a.tmps.getD 21 undef : Value) :: (a.tmps.getD 22 undef : Value) :: (a.tmps.getD 23 undef : Value) :: (a.tmps.getD 24 undef : Value) :: (a.tmps.getD 25 undef : Value) :: (a.tmps.getD 26 undef : Value) :: (a.tmps.getD 27 undef : Value) :: (a.tmps.getD 28 undef : Value) :: (a.tmps.getD 29 undef : Value) :: (a.tmps.getD 30 undef : Value) :: (a.tmps.getD 31 undef : Value) :: (a.tmps.getD 32 undef : Value) :: (a.tmps.getD 33 undef : Value) :: (a.tmps.getD 34 undef : Value) :: (a.tmps.getD 35 undef : Value) :: (a.tmps.getD 36 undef : Value) :: (a.tmps.getD 37 undef : Value) :: (a.tmps.getD 38 undef : Value) :: (a.tmps.getD 39 undef : Value) :: (a.tmps.getD 40 undef : Value) :: (a.tmps.getD 41 undef : Value) :: (a.tmps.getD 42 undef : Value) :: (a.tmps.getD 43 undef : Value) :: (a.tmps.getD 44 undef : Value) :: (a.tmps.getD 45 undef : Value) :: (a.tmps.getD 46 undef : Value) :: (a.tmps.getD 47 undef : Value) :: (a.tmps.getD 48 undef : Value) :: (a.tmps.getD 49 undef : Value) :: (a.tmps.getD 50 undef : Value) :: (a.tmps.getD 51 undef : Value) :: (a.tmps.getD 52 undef : Value) :: (a.tmps.getD 53 undef : Value) :: (a.tmps.getD 54 undef : Value) :: (a.tmps.getD 55 undef : Value) :: (a.tmps.getD 56 undef : Value) :: (a.tmps.getD 57 undef : Value) :: (a.tmps.getD 58 undef : Value) :: (a.tmps.getD 59 undef : Value) :: (a.tmps.getD 60 undef : Value) :: (a.tmps.getD 61 undef : Value) :: (a.tmps.getD 62 undef : Value) :: ([] : List Value)).toArray := rfl
    rw [e, x0, x1, x2, x3, x4, x5, x6, x7, x8, x9, x10, x11, x12, x13, x14, x15, x16, x17, x18, x19, x20, x21, x22, x23, x24, x25, x26, x27, x28, x29, x30, x31, x32, x33, x34, x35, x36, x37, x38, x39, x40, x41, x42, x43, x44, x45, x46, x47, x48, x49, x51, x52, x53, x54, x55, x57, x58, x59, x60, x61, x62] at h
    exact h
  obtain ⟨tmps, defers⟩ := a
  obtain rfl : defers = [] := hd
  have hl' : tmps = _ := hl
  rw [hl']
  have hb' := est2_chg hb
  exact hend w' _ _ (O 2) (O 8) ⟨hb'.os, hb'.tape, hb'.output, hb'.size, hb'.block⟩ (hf 2 _ 50 rfl rfl (by decide)).1 (hf 2 _ 50 rfl rfl (by decide)).2 (hf 8 _ 56 rfl rfl (by decide)).1 (hf 8 _ 56 rfl rfl (by decide)).2

end Go.Proofs.Ytdboloabpjmgaaa

/-! TwoB -/
namespace Go.Proofs.Ytdboloabpjmgaaa
open Go.RowKit Go.Proofs.YtdboloabpjmgaaaW.PrintWords Go.RegionInvYtdboloabpjmgaaa Go.RegionEYtdboloabpjmgaaa

/-- The two arguments' boxes. -/
structure TwoB (w W : World) (pa pb : Pl) (a b : Tm) : Prop where
  ba : W.heap[w.heap.size]? = some (tmO pa a)
  bb : W.heap[w.heap.size + 1]? = some (tmO pb b)
  bel : Below w.heap.size w W
  ia : TmIn W w.heap.size pa a
  ib : TmIn W w.heap.size pb b
theorem TwoB.later {w W W' : World} {pa pb : Pl} {a b : Tm} (h : TwoB w W pa pb a b) (hb : Below W.heap.size W W') : TwoB w W' pa pb a b :=
  ⟨(hb.block _ (blk_lt h.ba)).trans h.ba, (hb.block _ (blk_lt h.bb)).trans h.bb, below_then h.bel h.bel.size hb, h.ia.stay (hb.mono h.bel.size), h.ib.stay (hb.mono h.bel.size)⟩
/-- A box made later. -/
structure BoxT (W : World) (g : Nat) (q : Pl) (t : Tm) : Prop where
  x : W.heap[g]? = some (tmO q t)
  i : TmIn W W.heap.size q t
theorem BoxT.later {W W' : World} {g : Nat} {q : Pl} {t : Tm} (h : BoxT W g q t) (hb : Below W.heap.size W W') : BoxT W' g q t := ⟨(hb.block _ (blk_lt h.x)).trans h.x, TmS.all (TmS.later h.i hb)⟩
theorem loose_in {t : Tm} (h : Whole t) : 0 ≤ LooseT t ∧ LooseT t ≤ 1048577 := by
  rw [LooseT_ok h.ok]
  refine ⟨lm_pos t 0, ?_⟩
  have key : ∀ (t : Tm) (b : Int), AllL (fun x e => 0 ≤ e ∧ (x.kind = 1 → 0 ≤ x.num ∧ x.num ≤ 1048576)) t b → LM t b ≤ 1048577 := by
    intro t b h
    induction h with
    | @leaf t b hl hp =>
      rw [lm_leaf (leaf_nK hl)]
      unfold LV
      split
      · rename_i h; have := hp.2 h.1; have := hp.1; omega
      · omega
    | @node t b hl _ ih =>
      rw [lm_node hl]
      unfold loK
      have k2 : ∀ (xs : List (Fin (nK t))), (xs.map fun i => LM (kidF t i) (b + moreZ t i)).foldr max 0 ≤ 1048577 := by
        intro xs
        induction xs with
        | nil => show (0 : Int) ≤ 1048577; decide
        | cons y r ihr => rw [List.map_cons, List.foldr_cons]; have := ih y; omega
      exact k2 _
  refine key t 0 (((all_depth _ t (Nat.lt_succ_self _) 0).both (h.num 0)).mono fun x e _ h => ⟨h.1.1, h.2⟩)
theorem mod_in (x k : Int) (h0 : 0 < k) (h1 : k ≤ 1000) : 0 ≤ wrap64 ((IntKind.u64.wrap x).tmod k) ∧ wrap64 ((IntKind.u64.wrap x).tmod k) < k := by
  have hu : 0 ≤ IntKind.u64.wrap x := by simp [IntKind.wrap, IntKind.bits, IntKind.signed]; omega
  have h2 := Int.tmod_nonneg k hu
  have h3 := Int.tmod_lt_of_pos (IntKind.u64.wrap x) h0
  unfold wrap64
  omega
end Go.Proofs.Ytdboloabpjmgaaa

/-! LawTC -/
namespace Go.Proofs.Ytdboloabpjmgaaa
open Go.RowKit Go.Proofs.YtdboloabpjmgaaaW.PrintWords Go.RegionInvYtdboloabpjmgaaa Go.RegionEYtdboloabpjmgaaa

set_option maxRecDepth 100000 in
set_option maxHeartbeats 4000000 in
theorem termClosed_calls (a b : Tm) (pa pb : Pl) (fr0 by0 : Int) (w : World) (hina : TmIn w w.heap.size pa a) (hinb : TmIn w w.heap.size pb b) :
    Calls Try.prog 11 #[tmV pa a, tmV pb b, .int .i64 fr0, .int .i64 by0] w fun e w' => e = .returned (.bool true) ∧ Below w.heap.size w w' := by
  obtain ⟨W, hW⟩ : ∃ W, W = (w.alloc (tmO pa a)).alloc (tmO pb b) := ⟨_, rfl⟩
  have hb : Below w.heap.size w W := by rw [hW]; exact below_alloc (below_alloc (Below.refl _ _) _) _
  have H0 := Aside0.mk (show TwoB w W pa pb a b from ⟨by rw [hW]; exact box0 w _ _, by rw [hW]; exact box1 w _ _, hb, hina.stay hb, hinb.stay hb⟩)
  obtain ⟨W1, hW1⟩ : ∃ W1, W1 = W.alloc (.cells (tmC pa a ++ tmC pb b).toArray 28 (0, 0)) := ⟨_, rfl⟩
  have hb1 : Below W.heap.size W W1 := by rw [hW1]; exact below_alloc (Below.refl _ _) _
  have H1 := Aside0.mk (H0.out.later hb1)
  have HR1 := Aside0.mk (show W1.heap[W.heap.size]? = some (.cells (tmC pa a ++ tmC pb b).toArray 28 (0, 0)) by rw [hW1]; exact blk_new _ _)
  have hW1' : W1 = _ := hW1
  simp only [tmC, List.cons_append, List.nil_append] at hW1'
  clear hina hinb hb hb1 hW1
  unfold tmV
  unfold tmO at hW
  go_enter Try.func11, Try.ntmps11
  go_upto_region 1 with (fail)
  rw [← hW]
  clear hW
  obtain ⟨wb, hwb⟩ : ∃ x, wholeB [a, b] = x := ⟨_, rfl⟩
  have HWB := Aside0.mk hwb
  cases wb with
  | false =>
    clear hwb
    go_upto_region 2 with (first
      | (refine wpList_load_row rfl 28 _ rfl (w.heap.size) rfl 28 _ (0, 0) _ H0.out.ba Try.underlying28 rfl (by kernel_rfl) ?_)
      | (refine wpList_load_row rfl 28 _ rfl (w.heap.size + 1) rfl 28 _ (0, 0) _ H0.out.bb Try.underlying28 rfl (by kernel_rfl) ?_)
      | (go_at_call 36; go_must (rw [← hW1']; clear hW1'; refine (whole_calls w.heap.size (some ⟨W.heap.size, 0, none⟩) 2 2 _ [a, b] W1 H1.out.bel.size rfl (by decide) (lam_row HR1.out H1.out.ia H1.out.ib)).mono ?_; rw [HWB.out]; rintro e w1 ⟨rfl, hb⟩; have HS1 := Aside0.mk (H1.out.later hb); clear hb)))
    go_wp2_with (go_at_call 25; go_must (refine (awake_calls w1).mono ?_; rintro e w2 ⟨rfl, hb⟩; have HS2 := Aside0.mk (HS1.out.later hb); clear hb))
    go_ret
    exact ⟨rfl, HS2.out.bel⟩
  | true =>
    have hall := List.all_eq_true.1 hwb
    have HWA := Aside0.mk (whole_of (of_decide_eq_true (hall a (by simp))))
    have HWV := Aside0.mk (whole_of (of_decide_eq_true (hall b (by simp))))
    clear hwb hall
    go_upto_region 3 with (first
      | (refine wpList_load_row rfl 28 _ rfl (w.heap.size) rfl 28 _ (0, 0) _ H0.out.ba Try.underlying28 rfl (by kernel_rfl) ?_)
      | (refine wpList_load_row rfl 28 _ rfl (w.heap.size + 1) rfl 28 _ (0, 0) _ H0.out.bb Try.underlying28 rfl (by kernel_rfl) ?_)
      | (go_at_call 36; go_must (rw [← hW1']; clear hW1'; refine (whole_calls w.heap.size (some ⟨W.heap.size, 0, none⟩) 2 2 _ [a, b] W1 H1.out.bel.size rfl (by decide) (lam_row HR1.out H1.out.ia H1.out.ib)).mono ?_; rw [HWB.out]; rintro e w1 ⟨rfl, hb⟩; have HS1 := Aside0.mk (H1.out.later hb); clear hb)))
    clear H0 H1 HR1
    obtain ⟨n, hn⟩ : ∃ x, LooseT a = x := ⟨_, rfl⟩
    have HN := Aside0.mk hn
    have hn2 := loose_in HWA.out
    rw [hn] at hn2
    clear hn
    go_upto_region 4 with (first
      | (refine wpList_load_row rfl 28 _ rfl (w.heap.size) rfl 28 _ (0, 0) _ HS1.out.ba Try.underlying28 rfl (by kernel_rfl) ?_)
      | (go_at_call 37; go_must (refine (loose_calls a pa w1 (TmS.all HS1.out.ia)).mono ?_; rw [HN.out]; rintro e w2 ⟨rfl, hb⟩; have HS2 := Aside0.mk (HS1.out.later hb); clear hb)))
    go_upto_region 6 with (fail)
    have hm1 := mod_in fr0 10 (by decide) (by decide)
    have hm2 := mod_in by0 1000 (by decide) (by decide)
    obtain ⟨r, hr⟩ : ∃ r, wrap64 ((IntKind.u64.wrap fr0).tmod 10) = r := ⟨_, rfl⟩
    obtain ⟨y, hy⟩ : ∃ y, wrap64 ((IntKind.u64.wrap by0).tmod 1000) = y := ⟨_, rfl⟩
    rw [hr] at hm1 ⊢
    rw [hy] at hm2 ⊢
    rw [show wrap64 (n + r) = n + r by unfold wrap64; omega]
    clear hr hy
    refine tc6_region w2 w.heap.size w.heap.size pa a (n + r) y HS2.out.bel.size HS2.out.ba HS2.out.ia (closed_lift HWA.out (by omega) (by omega) (by rw [HN.out]; omega)) ?_
    intro w3 u31 O3 hch _ _
    have hb3 := hch.below (fun _ h => h.elim False.elim False.elim) (Nat.le_refl _)
    have HS3 := Aside0.mk (HS2.out.later hb3)
    clear hch hb3 HS1 HS2
    by_cases hp : 0 < n
    · have HLL := Aside0.mk (show LooseT (LiftT a 0 y) = n + y by rw [loose_lift HWA.out (by omega) (by rw [HN.out]; exact hp), HN.out])
      have hw : wrap64 (n + y) = n + y := by unfold wrap64; omega
      go_upto_region 9 with (fail)
      go_wp2_with (first
        | (refine wpList_load_row rfl 28 _ rfl (w.heap.size) rfl 28 _ (0, 0) _ HS3.out.ba Try.underlying28 rfl (by kernel_rfl) ?_)
        | (go_at_call 23; go_must (refine (Lift_calls w.heap.size 0 y a pa w3 HS3.out.bel.size HS3.out.ia).mono ?_; rintro e w4 ⟨q4, rfl, ht, hb⟩; have HT4 := Aside0.mk (TmS.all ht); have HS4 := Aside0.mk (HS3.out.later hb); clear ht hb))
        | (go_at_call 37; go_must (refine (loose_calls (LiftT a 0 y) q4 w4 HT4.out).mono ?_; rw [HLL.out]; rintro e w5 ⟨rfl, hb⟩; have HS5 := Aside0.mk (HS4.out.later hb); clear hb))
        | (go_at_call 25; go_must (refine (awake_calls w5).mono ?_; rintro e w6 ⟨rfl, hb⟩; have HS6 := Aside0.mk (HS5.out.later hb); clear hb)))
      go_ret
      exact ⟨by simp, HS6.out.bel⟩
    · have hn0 : n = 0 := by omega
      have HL0 := Aside0.mk (show LooseT a = 0 by rw [HN.out]; exact hn0)
      clear hn0
      go_upto_region 10 with (fail)
      refine tc10_region w3 w.heap.size w.heap.size pa a (w.heap.size + 1) pb b y HS3.out.bel.size HS3.out.ba HS3.out.ia HS3.out.bb HS3.out.ib (closed_inst HWA.out HWV.out HL0.out) (closed_lift HWA.out (by decide) (by omega) (by rw [HL0.out]; decide)) ?_
      intro w4 u50 u56 O2 O8 hch _ _ _ _
      have HBN := Aside0.mk (below_then HS3.out.bel HS3.out.bel.size (hch.below (fun _ h => h.elim False.elim False.elim) (Nat.le_refl _)))
      clear hch
      go_wp2
      go_ret
      exact ⟨rfl, HBN.out⟩
end Go.Proofs.Ytdboloabpjmgaaa

/-! LvIn -/
namespace Go.Proofs.Ytdboloabpjmgaaa
open Go.RowKit Go.Proofs.YtdboloabpjmgaaaW.PrintWords Go.RegionInvYtdboloabpjmgaaa Go.ChangeShapes Go.WideShapes Go.Deep

instance : Inhabited Lv := ⟨.mk 0 0 []⟩
set_option maxRecDepth 100000 in
theorem lv_open {H : Type} {enc : TypeId × Value → H} {W : World} {base : Nat} {sp : Nat → Bool} {held : Bool} (F : Nat) : ∀ (fuel : Nat), fuel ≤ F → ∀ (cs : List Value) (x : DataW H × List MemPlace),
    DataW.trod enc Try.prog W base sp held fuel 25 cs = some x → ∃ (l : Lv) (A : Option Addr) (c : Nat), cs = [.int .i64 l.kind, .int .i64 l.num, .slice A l.kids.length c] ∧ LvS W (fun _ => True) A c l ∧ (Lit.int .i64 l.kind).wf = true ∧ (Lit.int .i64 l.num).wf = true := by
  induction F with
  | zero =>
    intro fuel hF cs x h
    obtain ⟨xs, n, hn, _⟩ := DataW.trod_struct Try.underlying25 h
    omega
  | succ F ih =>
    intro fuel hF cs x h
    obtain ⟨xs, n, hn, hx, hl, hxl, hf⟩ := DataW.trod_struct Try.underlying25 h
    have hl3 : cs.length = 3 := by rw [hl]; kernel_rfl
    match xs, hxl, cs, hl3 with
    | [y0, y1, y2], _, [v0, v1, v2], _ =>
      have g0 : DataW.trod enc Try.prog W base sp held n 3 [v0] = some y0 := hf 0 _ rfl
      have g1 : DataW.trod enc Try.prog W base sp held n 3 [v1] = some y1 := hf 1 _ rfl
      have g2 : DataW.trod enc Try.prog W base sp held n 23 [v2] = some y2 := hf 2 _ rfl
      obtain ⟨k, e0, _, w0⟩ := DataW.trod_int Try.underlying3 g0
      obtain ⟨m, e1, _, w1⟩ := DataW.trod_int Try.underlying3 g1
      obtain rfl : v0 = .int .i64 k := by simpa using e0
      obtain rfl : v1 = .int .i64 m := by simpa using e1
      rcases DataW.trod_slice Try.underlying23 g2 with ⟨e2, _⟩ | ⟨a, len, cap, elems, rest, n', hn', e2, _, _, hle, hm, hlen, hel, _, _⟩
      · obtain rfl : v2 = .slice none 0 0 := by simpa using e2
        exact ⟨.mk k m [], none, 0, rfl, .mk (fun _ => none) (fun _ => 0) (by simp) (by omega) (fun i x hx => by simp at hx) (fun i x hx => by simp at hx), w0, w1⟩
      · obtain rfl : v2 = .slice (some a) len cap := by simpa using e2
        have hc3 : Try.prog.cellsOf 25 = 3 := by kernel_rfl
        rw [hc3] at hel
        have each : ∀ i, i < len → ∃ q : Lv × Option Addr × Nat, W.cells? base (a.add (i * 3)) 3 = some [.int .i64 q.1.kind, .int .i64 q.1.num, .slice q.2.1 q.1.kids.length q.2.2] ∧ LvS W (fun _ => True) q.2.1 q.2.2 q.1 := by
          intro i hi
          have hq := hel i hi
          rw [List.getElem?_eq_getElem (by omega)] at hq
          obtain ⟨cs', h1, h2⟩ := Option.bind_eq_some_iff.1 hq
          obtain ⟨l, A, c, rfl, h3, _⟩ := ih n' (by omega) cs' _ h2
          exact ⟨(l, A, c), h1, h3⟩
        obtain ⟨q, hq⟩ := choose_lt each
        have hcell : ∀ i, i < len → ∀ j, j < 3 → W.cell? ((a.add (i * 3)).add j) = ([.int .i64 (q i).1.kind, .int .i64 (q i).1.num, .slice (q i).2.1 (q i).1.kids.length (q i).2.2] : List Value)[j]? := fun i hi j hj => (World.cells?_some (hq i hi).1).2.2 j hj
        have hget : ∀ (i : Nat) (x : Lv), ((List.range len).map fun i => (q i).1)[i]? = some x → i < len ∧ x = (q i).1 := by
          intro i x hx
          have hi : i < len := by
            rcases Nat.lt_or_ge i len with h | h
            · exact h
            · rw [List.getElem?_eq_none (by simpa using h)] at hx; cases hx
          rw [List.getElem?_map, List.getElem?_range hi] at hx
          exact ⟨hi, (Option.some.inj hx).symm⟩
        refine ⟨.mk k m ((List.range len).map fun i => (q i).1), some a, cap, by simp [Lv.kind, Lv.num, Lv.kids], .mk (fun i => (q i).2.1) (fun i => (q i).2.2) (by simpa using hle) (by simp only [maxLen] at hm; omega) (fun i x hx => ?_) (fun i x hx => ?_), w0, w1⟩
        · obtain ⟨hi, rfl⟩ := hget i x hx
          have hsp : a.spot = none := by
            have h0 := hcell 0 (by omega) 0 (by omega)
            simp only [Nat.zero_mul, Addr.add, if_true] at h0
            cases hs : a.spot with
            | none => rfl
            | some z => simp [World.cell?, hs] at h0; split at h0 <;> simp at h0
          obtain ⟨b, o, z⟩ := a
          obtain rfl : z = none := hsp
          have c0 := hcell i hi 0 (by omega)
          have c1 := hcell i hi 1 (by omega)
          have c2 := hcell i hi 2 (by omega)
          simp only [add_flat] at c0 c1 c2
          exact ⟨_, rfl, trivial, rfl, by rw [add_flat]; exact c0, by rw [add_flat]; exact c1, by rw [add_flat]; exact c2⟩
        · obtain ⟨hi, rfl⟩ := hget i x hx
          exact (hq i hi).2
end Go.Proofs.Ytdboloabpjmgaaa

/-! LvsIn -/
namespace Go.Proofs.Ytdboloabpjmgaaa
open Go.RowKit Go.Proofs.YtdboloabpjmgaaaW.PrintWords Go.RegionInvYtdboloabpjmgaaa Go.ChangeShapes Go.WideShapes Go.Deep

set_option maxRecDepth 100000 in
theorem lvs_open {H : Type} {enc : TypeId × Value → H} {W : World} {base : Nat} {sp : Nat → Bool} {held : Bool} {fuel : Nat} {v2 : Value} {y2 : DataW H × List MemPlace} (g2 : DataW.trod enc Try.prog W base sp held fuel 23 [v2] = some y2) :
    ∃ (vs : List Lv) (A : Option Addr) (c : Nat), v2 = .slice A vs.length c ∧ LvS W (fun _ => True) A c (.mk 0 0 vs) := by
  rcases DataW.trod_slice Try.underlying23 g2 with ⟨e2, _⟩ | ⟨a, len, cap, elems, rest, n', hn', e2, _, _, hle, hm, hlen, hel, _, _⟩
  · obtain rfl : v2 = .slice none 0 0 := by simpa using e2
    exact ⟨[], none, 0, rfl, .mk (fun _ => none) (fun _ => 0) (by simp) (by omega) (fun i x hx => by simp at hx) (fun i x hx => by simp at hx)⟩
  · obtain rfl : v2 = .slice (some a) len cap := by simpa using e2
    have hc3 : Try.prog.cellsOf 25 = 3 := by kernel_rfl
    rw [hc3] at hel
    have each : ∀ i, i < len → ∃ q : Lv × Option Addr × Nat, W.cells? base (a.add (i * 3)) 3 = some [.int .i64 q.1.kind, .int .i64 q.1.num, .slice q.2.1 q.1.kids.length q.2.2] ∧ LvS W (fun _ => True) q.2.1 q.2.2 q.1 := by
      intro i hi
      have hq := hel i hi
      rw [List.getElem?_eq_getElem (by omega)] at hq
      obtain ⟨cs', h1, h2⟩ := Option.bind_eq_some_iff.1 hq
      obtain ⟨l, A, c, rfl, h3, _⟩ := lv_open n' n' (Nat.le_refl _) cs' _ h2
      exact ⟨(l, A, c), h1, h3⟩
    obtain ⟨q, hq⟩ := choose_lt each
    have hcell : ∀ i, i < len → ∀ j, j < 3 → W.cell? ((a.add (i * 3)).add j) = ([.int .i64 (q i).1.kind, .int .i64 (q i).1.num, .slice (q i).2.1 (q i).1.kids.length (q i).2.2] : List Value)[j]? := fun i hi j hj => (World.cells?_some (hq i hi).1).2.2 j hj
    have hget : ∀ (i : Nat) (x : Lv), ((List.range len).map fun i => (q i).1)[i]? = some x → i < len ∧ x = (q i).1 := by
      intro i x hx
      have hi : i < len := by
        rcases Nat.lt_or_ge i len with h | h
        · exact h
        · rw [List.getElem?_eq_none (by simpa using h)] at hx; cases hx
      rw [List.getElem?_map, List.getElem?_range hi] at hx
      exact ⟨hi, (Option.some.inj hx).symm⟩
    refine ⟨(List.range len).map fun i => (q i).1, some a, cap, by simp, .mk (fun i => (q i).2.1) (fun i => (q i).2.2) (by simpa using hle) (by simp only [maxLen] at hm; omega) (fun i x hx => ?_) (fun i x hx => ?_)⟩
    · obtain ⟨hi, rfl⟩ := hget i x hx
      have hsp : a.spot = none := by
        have h0 := hcell 0 (by omega) 0 (by omega)
        simp only [Nat.zero_mul, Addr.add, if_true] at h0
        cases hs : a.spot with
        | none => rfl
        | some z => simp [World.cell?, hs] at h0; split at h0 <;> simp at h0
      obtain ⟨b, o, z⟩ := a
      obtain rfl : z = none := hsp
      have c0 := hcell i hi 0 (by omega)
      have c1 := hcell i hi 1 (by omega)
      have c2 := hcell i hi 2 (by omega)
      simp only [add_flat] at c0 c1 c2
      exact ⟨_, rfl, trivial, rfl, by rw [add_flat]; exact c0, by rw [add_flat]; exact c1, by rw [add_flat]; exact c2⟩
    · obtain ⟨hi, rfl⟩ := hget i x hx
      exact (hq i hi).2
end Go.Proofs.Ytdboloabpjmgaaa

/-! TmInT -/
namespace Go.Proofs.Ytdboloabpjmgaaa
open Go.RowKit Go.Proofs.YtdboloabpjmgaaaW.PrintWords Go.RegionInvYtdboloabpjmgaaa Go.ChangeShapes Go.WideShapes Go.Deep

section
variable {H : Type} {enc : TypeId × Value → H} {W : World} {base : Nat} {sp : Nat → Bool} {held : Bool}
def Sized (t : TypeId) (d : DataW H) : Prop := (DataW.weights Try.prog t d).all (· ≤ reachBytes) = true
theorem all_at {t : TypeId} : ∀ {l : List (DataW H)}, (DataW.weightsAll Try.prog t l).all (· ≤ reachBytes) = true → ∀ (i : Nat) (d : DataW H), l[i]? = some d → Sized t d
  | [], _, i, d, h => by simp at h
  | x :: r, hw, i, d, h => by
    rw [DataW.weightsAll, List.all_append, Bool.and_eq_true] at hw
    cases i with
    | zero => simp at h; subst h; exact hw.1
    | succ j => exact all_at hw.2 j d (by simpa using h)
theorem each_at : ∀ {ts : List TypeId} {l : List (DataW H)}, (DataW.weightsEach Try.prog ts l).all (· ≤ reachBytes) = true → ∀ (i : Nat) (t : TypeId) (d : DataW H), ts[i]? = some t → l[i]? = some d → Sized t d
  | [], l, _, i, t, d, h, _ => by simp at h
  | _ :: _, [], _, i, t, d, _, h => by simp at h
  | s :: ts, x :: r, hw, i, t, d, ht, hd => by
    rw [DataW.weightsEach, List.all_append, Bool.and_eq_true] at hw
    cases i with
    | zero => simp at ht hd; subst ht; subst hd; exact hw.1
    | succ j => exact each_at hw.2 j t d (by simpa using ht) (by simpa using hd)
theorem sized_agg {t : TypeId} {fs : Array Field} {ps : List (DataW H)} (hu : Try.prog.underlying t = some (.struct fs)) (h : Sized t (.agg ps)) : ∀ (i : Nat) (f : Field) (d : DataW H), fs[i]? = some f → ps[i]? = some d → Sized f.type d := by
  unfold Sized at h
  rw [DataW.weights, hu] at h
  intro i f d hf hd
  exact each_at h i f.type d (by simp [hf]) hd
theorem sized_slices {t e : TypeId} {es rs : List (DataW H)} (hu : Try.prog.underlying t = some (.slice e)) (h : Sized t (.slice es rs)) : (es.length + rs.length) * Try.prog.bytesOf e ≤ 140737488351232 ∧ ∀ (i : Nat) (d : DataW H), es[i]? = some d → Sized e d := by
  unfold Sized at h
  rw [DataW.weights, hu] at h
  simp only [List.all_cons, List.all_append, Bool.and_eq_true, decide_eq_true_eq] at h
  exact ⟨h.1, fun i d hd => all_at h.2.1 i d hd⟩
theorem sized_str {t : TypeId} {s : List UInt8} (h : Sized (H := H) t (.lit (.string s))) : s.length ≤ 140737488351232 := by
  unfold Sized at h
  rw [DataW.weights] at h
  have h' : s.length ≤ reachBytes := by simpa using h
  exact h'
theorem lvs_len {fuel : Nat} {v : Value} {y : DataW H × List MemPlace} (g : DataW.trod enc Try.prog W base sp held fuel 23 [v] = some y) (hw : Sized 23 y.1) {A : Option Addr} {n c : Nat} (he : v = .slice A n c) : n * 40 ≤ 140737488355328 := by
  subst he
  rcases DataW.trod_slice Try.underlying23 g with ⟨e2, _⟩ | ⟨a, len, cap, elems, rest, n', hn', e2, hy, _, hle, hm, hlen, hel, _, _⟩
  · have : n = 0 := by simp at e2; exact e2.2.1
    omega
  · have : n = len := by simp at e2; exact e2.2.1
    subst this
    subst hy
    have h := (sized_slices Try.underlying23 hw).1
    rw [show Try.prog.bytesOf 25 = 40 by kernel_rfl] at h
    simp only [List.length_map] at h
    have := Nat.le_mul_of_pos_right elems.length (show 0 < 40 by decide)
    have h2 : n * 40 ≤ (elems.length + rest.length) * 40 := Nat.mul_le_mul_right _ (by omega)
    omega
theorem plain_addr {a : Addr} {v : Value} (h : W.cell? a = some v) : a.spot = none := by
  cases hs : a.spot with
  | none => rfl
  | some z => simp [World.cell?, hs] at h; split at h <;> simp at h
theorem int_range {n : Int} (h : (Lit.int .i64 n).wf = true) : -9223372036854775808 ≤ n ∧ n ≤ 9223372036854775807 := by simpa [Lit.wf, IntKind.min, IntKind.max, IntKind.signed, IntKind.bits] using h
set_option maxRecDepth 100000 in
set_option maxHeartbeats 4000000 in
theorem tm_open (F : Nat) : ∀ (fuel : Nat), fuel ≤ F → ∀ (cs : List Value) (x : DataW H × List MemPlace), DataW.trod enc Try.prog W base sp held fuel 28 cs = some x → Sized 28 x.1 →
    ∃ (t : Tm) (p : Pl), cs = tmC p t ∧ TmS W (fun _ => True) p t := by
  induction F with
  | zero =>
    intro fuel hF cs x h
    obtain ⟨xs, n, hn, _⟩ := DataW.trod_struct Try.underlying28 h
    omega
  | succ F ih =>
    intro fuel hF cs x h hw
    obtain ⟨xs, n, hn, hx, hl, hxl, hf⟩ := DataW.trod_struct Try.underlying28 h
    have hl8 : cs.length = 8 := by rw [hl]; kernel_rfl
    match xs, hxl, cs, hl8 with
    | [y0, y1, y2, y3, y4, y5], _, [v0, v1, v2, v3, v4, v5, v6, v7], _ =>
      subst hx
      have g0 : DataW.trod enc Try.prog W base sp held n 3 [v0] = some y0 := hf 0 _ rfl
      have g1 : DataW.trod enc Try.prog W base sp held n 3 [v1] = some y1 := hf 1 _ rfl
      have g2 : DataW.trod enc Try.prog W base sp held n 9 [v2] = some y2 := hf 2 _ rfl
      have g3 : DataW.trod enc Try.prog W base sp held n 25 [v3, v4, v5] = some y3 := hf 3 _ rfl
      have g4 : DataW.trod enc Try.prog W base sp held n 23 [v6] = some y4 := hf 4 _ rfl
      have g5 : DataW.trod enc Try.prog W base sp held n 26 [v7] = some y5 := hf 5 _ rfl
      have z2 : Sized 9 y2.1 := sized_agg Try.underlying28 hw 2 _ _ rfl rfl
      have z4 : Sized 23 y4.1 := sized_agg Try.underlying28 hw 4 _ _ rfl rfl
      have z5 : Sized 26 y5.1 := sized_agg Try.underlying28 hw 5 _ _ rfl rfl
      obtain ⟨k, e0, _, w0⟩ := DataW.trod_int Try.underlying3 g0
      obtain ⟨m, e1, _, w1⟩ := DataW.trod_int Try.underlying3 g1
      obtain ⟨s, e2, e2', _⟩ := DataW.trod_string Try.underlying9 g2
      obtain rfl : v0 = .int .i64 k := by simpa using e0
      obtain rfl : v1 = .int .i64 m := by simpa using e1
      obtain rfl : v2 = .string s := by simpa using e2
      have hs : s.size ≤ 140737488355328 := by
        rw [e2'] at z2
        have := sized_str z2
        simp at this
        have e : s.size = s.data.size := rfl
        omega
      obtain ⟨l, A, c, e3, hlv, _, _⟩ := lv_open n n (Nat.le_refl _) _ _ g3
      obtain ⟨ls, B, d, rfl, hls⟩ := lvs_open g4
      have hll := lvs_len g4 z4 rfl
      obtain ⟨rfl, rfl, rfl⟩ : v3 = .int .i64 l.kind ∧ v4 = .int .i64 l.num ∧ v5 = .slice A l.kids.length c := by simpa using e3
      have hfit : Fit m s ls := ⟨int_range w1, hs, hll⟩
      rcases DataW.trod_slice Try.underlying26 g5 with ⟨e5, _⟩ | ⟨a, len, cap, elems, rest, n', hn', e5, hy, _, hle, hm, hlen, hel, _, _⟩
      · obtain rfl : v7 = .slice none 0 0 := by simpa using e5
        exact ⟨.mk k m s l ls [], ⟨A, c, B, d, none, 0⟩, rfl, .mk (fun _ => default) hlv hls (by simp) (by simp) hfit (fun i x hx => by simp at hx) (fun i x hx => by simp at hx)⟩
      · obtain rfl : v7 = .slice (some a) len cap := by simpa using e5
        subst hy
        have hz := (sized_slices Try.underlying26 z5).2
        have hc8 : Try.prog.cellsOf 28 = 8 := by kernel_rfl
        rw [hc8] at hel
        have each : ∀ i, i < len → ∃ q : Tm × Pl, W.cells? base (a.add (i * 8)) 8 = some (tmC q.2 q.1) ∧ TmS W (fun _ => True) q.2 q.1 := by
          intro i hi
          have hq := hel i hi
          rw [List.getElem?_eq_getElem (by omega)] at hq
          obtain ⟨cs', h1, h2⟩ := Option.bind_eq_some_iff.1 hq
          obtain ⟨t, p, rfl, h3⟩ := ih n' (by omega) cs' _ h2 (hz i _ (by rw [List.getElem?_map, List.getElem?_eq_getElem (by omega)]; rfl))
          exact ⟨(t, p), h1, h3⟩
        obtain ⟨q, hq⟩ := choose_lt each
        have hcell : ∀ i, i < len → ∀ j, j < 8 → W.cell? ((a.add (i * 8)).add j) = (tmC (q i).2 (q i).1)[j]? := fun i hi j hj => (World.cells?_some (hq i hi).1).2.2 j hj
        have hget : ∀ (i : Nat) (x : Tm), ((List.range len).map fun i => (q i).1)[i]? = some x → i < len ∧ x = (q i).1 := by
          intro i x hx
          have hi : i < len := by
            rcases Nat.lt_or_ge i len with h | h
            · exact h
            · rw [List.getElem?_eq_none (by simpa using h)] at hx; cases hx
          rw [List.getElem?_map, List.getElem?_range hi] at hx
          exact ⟨hi, (Option.some.inj hx).symm⟩
        refine ⟨.mk k m s l ls ((List.range len).map fun i => (q i).1), ⟨A, c, B, d, some a, cap⟩, by simp [tmC, Tm.kind, Tm.num, Tm.name, Tm.lv, Tm.ls, Tm.kids], .mk (fun i => (q i).2) hlv hls (by simpa using hle) (by simp only [maxLen] at hm; exact hm) hfit (fun i x hx => ?_) (fun i x hx => ?_)⟩
        · obtain ⟨hi, rfl⟩ := hget i x hx
          have h0 := hcell 0 (by omega) 0 (by omega)
          simp only [Nat.zero_mul, Addr.add, if_true] at h0
          have hsp : a.spot = none := plain_addr (h0.trans (by rfl))
          obtain ⟨b, o, z⟩ := a
          obtain rfl : z = none := hsp
          refine ⟨b, o, rfl, trivial, fun j v hv => ?_⟩
          have hj : j < 8 := by
            rcases Nat.lt_or_ge j 8 with h | h
            · exact h
            · rw [List.getElem?_eq_none (by rw [tmC_len]; exact h)] at hv; cases hv
          have c0 := hcell i hi j hj
          simp only [add_flat] at c0
          rw [c0]
          exact hv
        · obtain ⟨hi, rfl⟩ := hget i x hx
          exact (hq i hi).2
set_option maxRecDepth 100000 in
theorem tm_in {v : Value} {d : DataW H} {ps : List MemPlace} {r : Reach} {b0 : Nat} (hv : Value.okWide Try.prog W r b0 28 v) (h : DataW.Trod enc Try.prog W base sp held 28 v d ps) (hw : Sized 28 d) :
    ∃ (t : Tm) (p : Pl), v = tmV p t ∧ TmS W (fun _ => True) p t := by
  obtain ⟨cs, rfl, hcs⟩ := okWide_struct Try.underlying28 hv
  obtain ⟨fuel, hf⟩ := h
  obtain ⟨t, p, he, ht⟩ := tm_open fuel fuel (Nat.le_refl _) _ _ hf hw
  refine ⟨t, p, ?_, ht⟩
  unfold tmV
  congr 1
  apply Array.toList_inj.1
  simpa [Value.cells, tmC] using he

end
end Go.Proofs.Ytdboloabpjmgaaa
