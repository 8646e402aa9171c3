/-
  The regions of Equal and Leq in which both sums are made.
-/
import Derived.Test.YtjlhbaohippidaaNfN
namespace Go.Proofs.Ytjlhbaohippidaa
open Go.RowKit Go.Proofs.YtjlhbaohippidaaW.PrintWords Go.RegionInvYtjlhbaohippidaa Go.RegionEYtjlhbaohippidaa
set_option linter.unusedVariables false

def eq_ops : List Oper := [
  { dst := some 15, op := Go.Op.load 24 (Go.Operand.tmp 2), type := 24, pos := "level.go:245", after := #[], guard := none },
  { dst := some 16, op := Go.Op.call { callee := Go.Callee.value (Go.Operand.func 34), args := #[Go.Operand.tmp 15, Go.Operand.const (Go.Value.slice none 0 0)], argTypes := #[24, 59] }, type := 52, pos := "level.go:245", after := #[{ on := 0, ground := Go.Ground.data }], guard := none },
  { dst := some 17, op := Go.Op.call { callee := Go.Callee.value (Go.Operand.func 38), args := #[Go.Operand.tmp 16], argTypes := #[52] }, type := 52, pos := "level.go:245", after := #[{ on := 1, ground := Go.Ground.data }, { on := 1, ground := Go.Ground.chain }], guard := none },
  { dst := some 18, op := Go.Op.load 24 (Go.Operand.tmp 3), type := 24, pos := "level.go:245", after := #[], guard := none },
  { dst := some 19, op := Go.Op.call { callee := Go.Callee.value (Go.Operand.func 34), args := #[Go.Operand.tmp 18, Go.Operand.const (Go.Value.slice none 0 0)], argTypes := #[24, 59] }, type := 52, pos := "level.go:245", after := #[{ on := 3, ground := Go.Ground.data }, { on := 2, ground := Go.Ground.chain }], guard := none },
  { dst := some 20, op := Go.Op.call { callee := Go.Callee.value (Go.Operand.func 38), args := #[Go.Operand.tmp 19], argTypes := #[52] }, type := 52, pos := "level.go:245", after := #[{ on := 4, ground := Go.Ground.data }, { on := 4, ground := Go.Ground.chain }], guard := none },
  { dst := some 5, op := Go.Op.alloc 52, type := 0, pos := "level.go:245", after := #[], guard := none },
  { dst := some 6, op := Go.Op.alloc 52, type := 0, pos := "level.go:245", after := #[], guard := none },
  { dst := none, op := Go.Op.store 52 (Go.Operand.tmp 5) (Go.Operand.tmp 17), type := 0, pos := "level.go:245", after := #[{ on := 6, ground := Go.Ground.data }, { on := 2, ground := Go.Ground.data }, { on := 5, ground := Go.Ground.chain }, { on := 0, ground := Go.Ground.phase }, { on := 1, ground := Go.Ground.phase }, { on := 2, ground := Go.Ground.phase }, { on := 3, ground := Go.Ground.textOnly Go.Departure.lateStores }, { on := 4, ground := Go.Ground.textOnly Go.Departure.lateStoresUnsure }, { on := 5, ground := Go.Ground.textOnly Go.Departure.lateStoresUnsure }, { on := 6, ground := Go.Ground.phase }, { on := 7, ground := Go.Ground.phase }], guard := none },
  { dst := none, op := Go.Op.store 52 (Go.Operand.tmp 6) (Go.Operand.tmp 20), type := 0, pos := "level.go:245", after := #[{ on := 7, ground := Go.Ground.data }, { on := 5, ground := Go.Ground.data }, { on := 8, ground := Go.Ground.chain }, { on := 0, ground := Go.Ground.phase }, { on := 1, ground := Go.Ground.phase }, { on := 2, ground := Go.Ground.phase }, { on := 3, ground := Go.Ground.phase }, { on := 4, ground := Go.Ground.phase }, { on := 5, ground := Go.Ground.phase }, { on := 6, ground := Go.Ground.phase }, { on := 7, ground := Go.Ground.phase }, { on := 8, ground := Go.Ground.phase }], guard := none }]
def eq_F (w0 : World) (b : Nat) (Aa Ab : Option Addr) (ca cb : Nat) (la lb : Lv) : Nat → (Nat → Value) → Value → World → (Nat → Prop) → Prop := fun rix => match rix with
  | 0 => fun _ v _ _ => v = lvV Aa ca la
  | 1 => fun τ v w O => NfV (fun _ => False) (sumP la) v w O
  | 2 => fun τ v w O => NfV (fun _ => False) (shortN (sumP la)) v w O
  | 3 => fun _ v _ _ => v = lvV Ab cb lb
  | 4 => fun τ v w O => NfV (fun _ => False) (sumP lb) v w O
  | 5 => fun τ v w O => NfV (fun _ => False) (shortN (sumP lb)) v w O
  | 6 => fun τ v w O => ∃ p, v = .pointer (some ⟨p, 0, none⟩) ∧ w.heap[p]? = some (.cells #[.int .i64 0, .slice none 0 0] 52 (0, 0)) ∧ O p
  | 7 => fun τ v w O => ∃ p, v = .pointer (some ⟨p, 0, none⟩) ∧ w.heap[p]? = some (.cells #[.int .i64 0, .slice none 0 0] 52 (0, 0)) ∧ O p
  | 8 => fun τ v w O => ∃ p, τ 5 = .pointer (some ⟨p, 0, none⟩) ∧ NfBox p (fun _ => False) (shortN (sumP la)) w O
  | 9 => fun τ v w O => ∃ p, τ 6 = .pointer (some ⟨p, 0, none⟩) ∧ NfBox p (fun _ => False) (shortN (sumP lb)) w O
  | _ => fun _ _ _ _ => True
def eq_C : Nat → List Nat := fun rix => match rix with
  | 2 => [1]
  | 5 => [4]
  | 8 => [6, 2]
  | 9 => [7, 5]
  | _ => []
theorem eq_nw2 : nwB eq_ops.toArray 2 = true := by kernel_rfl
theorem eq_nw3 : nwB eq_ops.toArray 3 = true := by kernel_rfl
set_option maxRecDepth 100000 in
set_option maxHeartbeats 8000000 in
theorem eq_obs (w0 : World) (b : Nat) (Aa Ab : Option Addr) (ca cb : Nat) (la lb : Lv) (hx2 : w0.heap[b]? = some (.cells #[.int .i64 la.kind, .int .i64 la.num, .slice Aa la.kids.length ca] 24 (0, 0))) (hx3 : w0.heap[b + 1]? = some (.cells #[.int .i64 lb.kind, .int .i64 lb.num, .slice Ab lb.kids.length cb] 24 (0, 0))) (hina : LvIn w0 b Aa ca la) (hinb : LvIn w0 b Ab cb lb) (hsa : soundB la = true) (hsb : soundB lb = true) (Q : Exit → Act → World → Prop) (a0 : Act) (hi2 : a0.tmps.getD 2 undef = .pointer (some ⟨b, 0, none⟩)) (hi3 : a0.tmps.getD 3 undef = .pointer (some ⟨b + 1, 0, none⟩)) :
    ObsE Try.prog eq_ops.toArray Q (est2 0 0 (fun _ => False) (fun _ => False)) eq_C (eq_F w0 b Aa Ab ca cb la lb) a0 w0 eq_ops.toArray.toList 0 := by
  have nw2 := eq_nw2
  have nw3 := eq_nw3
  refine ⟨?_, ?_, ?_, ?_, ?_, ?_, ?_, ?_, ?_, ?_, trivial⟩
  · refine ⟨⟨fun τ => stableE_det _, leans_not⟩, ?_⟩
    intro a w O hk
    have e2 : a.eval (.tmp 2) = .pointer (some ⟨b, 0, none⟩) := (hk.init 2 (initialB_of_nw nw2)).trans hi2
    have x2 := hk.world.still hx2 (fun ⟨_, h⟩ => h.elim And.right And.right)
    have x3 := hk.world.still hx3 (fun ⟨_, h⟩ => h.elim And.right And.right)
    have hfx : ∀ k, k < b → w.heap[k]? = w0.heap[k]? := fun k hkb => hk.fix k (est2_fix (by have := blk_lt hx2; omega) (fun h => h) (fun h => h))
    have hsz := hk.world.size
    exact obE_loadRow rfl e2 x2 Try.underlying24 rfl (by kernel_rfl) (wanted_none rfl) rfl
  · refine ⟨⟨fun τ => stableE_nf (fun k hk' => hk'.elim), leans_not⟩, ?_⟩
    intro a w O hk
    have e15 : a.eval (.tmp 15) = lvV Aa ca la := hk.fact 0 _ 15 rfl rfl rfl rfl
    have x2 := hk.world.still hx2 (fun ⟨_, h⟩ => h.elim And.right And.right)
    have x3 := hk.world.still hx3 (fun ⟨_, h⟩ => h.elim And.right And.right)
    have hfx : ∀ k, k < b → w.heap[k]? = w0.heap[k]? := fun k hkb => hk.fix k (est2_fix (by have := blk_lt hx2; omega) (fun h => h) (fun h => h))
    have hsz := hk.world.size
    refine obE_callNew #[lvV Aa ca la, .slice none 0 0] rfl rfl rfl rfl (by simp only [List.map_cons, List.map_nil]; rw [e15]; rfl) (wanted_none rfl) ((of_nil_calls la hsa Aa ca w ((hina.same fun k hk' _ => hfx k hk').mono fun k hk' _ => by have := blk_lt hx2; omega)).mono ?_)
    intro e w' h
    exact NfV.of_got h
  · refine ⟨⟨fun τ => stableE_nf (fun k hk' => hk'.elim), leans_not⟩, ?_⟩
    intro a w O hk
    have f16 := hk.fact 1 _ 16 rfl rfl rfl rfl
    have g16 := hk.owns 1 rfl rfl
    have x2 := hk.world.still hx2 (fun ⟨_, h⟩ => h.elim And.right And.right)
    have x3 := hk.world.still hx3 (fun ⟨_, h⟩ => h.elim And.right And.right)
    have hfx : ∀ k, k < b → w.heap[k]? = w0.heap[k]? := fun k hkb => hk.fix k (est2_fix (by have := blk_lt hx2; omega) (fun h => h) (fun h => h))
    have hsz := hk.world.size
    obtain ⟨A, n, cap, e16, h1, h2⟩ := f16
    refine obE_call #[.agg #[.int .i64 (sumP la).1, .slice A n cap]] rfl rfl rfl rfl (by simp only [List.map_cons, List.map_nil]; rw [show a.eval (.tmp 16) = _ from e16]) (wanted_none rfl) ((short_calls (O 1) A n cap (sumP la).1 (sumP la).2 w (h2.mono fun k hk' _ => hk'.elim False.elim id) h1).mono ?_)
    rintro e w' ⟨A', n', cap', rfl, h1', h2', hB⟩
    exact ⟨_, fun k => k < w'.heap.size ∧ (O 1 k ∨ w.heap.size ≤ k), rfl, ⟨A', n', cap', rfl, h1', h2'.mono fun k hk' hz => .inr ⟨hz, hk'⟩⟩, Chg.of_below hB, fun k h => h.2.elim (fun h' => .inl (.inl ⟨1, by simp [eq_C], h'⟩)) fun h' => .inr ⟨h', h.1⟩⟩
  · refine ⟨⟨fun τ => stableE_det _, leans_not⟩, ?_⟩
    intro a w O hk
    have e3 : a.eval (.tmp 3) = .pointer (some ⟨b + 1, 0, none⟩) := (hk.init 3 (initialB_of_nw nw3)).trans hi3
    have x2 := hk.world.still hx2 (fun ⟨_, h⟩ => h.elim And.right And.right)
    have x3 := hk.world.still hx3 (fun ⟨_, h⟩ => h.elim And.right And.right)
    have hfx : ∀ k, k < b → w.heap[k]? = w0.heap[k]? := fun k hkb => hk.fix k (est2_fix (by have := blk_lt hx2; omega) (fun h => h) (fun h => h))
    have hsz := hk.world.size
    exact obE_loadRow rfl e3 x3 Try.underlying24 rfl (by kernel_rfl) (wanted_none rfl) rfl
  · refine ⟨⟨fun τ => stableE_nf (fun k hk' => hk'.elim), leans_not⟩, ?_⟩
    intro a w O hk
    have e18 : a.eval (.tmp 18) = lvV Ab cb lb := hk.fact 3 _ 18 rfl rfl rfl rfl
    have x2 := hk.world.still hx2 (fun ⟨_, h⟩ => h.elim And.right And.right)
    have x3 := hk.world.still hx3 (fun ⟨_, h⟩ => h.elim And.right And.right)
    have hfx : ∀ k, k < b → w.heap[k]? = w0.heap[k]? := fun k hkb => hk.fix k (est2_fix (by have := blk_lt hx2; omega) (fun h => h) (fun h => h))
    have hsz := hk.world.size
    refine obE_callNew #[lvV Ab cb lb, .slice none 0 0] rfl rfl rfl rfl (by simp only [List.map_cons, List.map_nil]; rw [e18]; rfl) (wanted_none rfl) ((of_nil_calls lb hsb Ab cb w ((hinb.same fun k hk' _ => hfx k hk').mono fun k hk' _ => by have := blk_lt hx2; omega)).mono ?_)
    intro e w' h
    exact NfV.of_got h
  · refine ⟨⟨fun τ => stableE_nf (fun k hk' => hk'.elim), leans_not⟩, ?_⟩
    intro a w O hk
    have f19 := hk.fact 4 _ 19 rfl rfl rfl rfl
    have g19 := hk.owns 4 rfl rfl
    have x2 := hk.world.still hx2 (fun ⟨_, h⟩ => h.elim And.right And.right)
    have x3 := hk.world.still hx3 (fun ⟨_, h⟩ => h.elim And.right And.right)
    have hfx : ∀ k, k < b → w.heap[k]? = w0.heap[k]? := fun k hkb => hk.fix k (est2_fix (by have := blk_lt hx2; omega) (fun h => h) (fun h => h))
    have hsz := hk.world.size
    obtain ⟨A, n, cap, e19, h1, h2⟩ := f19
    refine obE_call #[.agg #[.int .i64 (sumP lb).1, .slice A n cap]] rfl rfl rfl rfl (by simp only [List.map_cons, List.map_nil]; rw [show a.eval (.tmp 19) = _ from e19]) (wanted_none rfl) ((short_calls (O 4) A n cap (sumP lb).1 (sumP lb).2 w (h2.mono fun k hk' _ => hk'.elim False.elim id) h1).mono ?_)
    rintro e w' ⟨A', n', cap', rfl, h1', h2', hB⟩
    exact ⟨_, fun k => k < w'.heap.size ∧ (O 4 k ∨ w.heap.size ≤ k), rfl, ⟨A', n', cap', rfl, h1', h2'.mono fun k hk' hz => .inr ⟨hz, hk'⟩⟩, Chg.of_below hB, fun k h => h.2.elim (fun h' => .inl (.inl ⟨4, by simp [eq_C], h'⟩)) fun h' => .inr ⟨h', h.1⟩⟩
  · refine ⟨⟨fun τ => stableE_ex fun p => stableE_and stableE_pure (stableE_block _ _), leans_not⟩, ?_⟩
    intro a w O hk
    have x2 := hk.world.still hx2 (fun ⟨_, h⟩ => h.elim And.right And.right)
    have x3 := hk.world.still hx3 (fun ⟨_, h⟩ => h.elim And.right And.right)
    have hfx : ∀ k, k < b → w.heap[k]? = w0.heap[k]? := fun k hkb => hk.fix k (est2_fix (by have := blk_lt hx2; omega) (fun h => h) (fun h => h))
    have hsz := hk.world.size
    exact obE_res (w' := w.alloc (.cells #[.int .i64 0, .slice none 0 0] 52 (0, 0))) (fun k => k = w.heap.size) (wanted_none rfl) (by unfold execOp; simp only []; go_simp) (Chg.of_below ((Below.refl _ _).alloc (Nat.le_refl _) _)) ⟨_, rfl, blk_new _ _, rfl⟩ (fun k hk => .inr ⟨by omega, by simp; omega⟩)
  · refine ⟨⟨fun τ => stableE_ex fun p => stableE_and stableE_pure (stableE_block _ _), leans_not⟩, ?_⟩
    intro a w O hk
    have x2 := hk.world.still hx2 (fun ⟨_, h⟩ => h.elim And.right And.right)
    have x3 := hk.world.still hx3 (fun ⟨_, h⟩ => h.elim And.right And.right)
    have hfx : ∀ k, k < b → w.heap[k]? = w0.heap[k]? := fun k hkb => hk.fix k (est2_fix (by have := blk_lt hx2; omega) (fun h => h) (fun h => h))
    have hsz := hk.world.size
    exact obE_res (w' := w.alloc (.cells #[.int .i64 0, .slice none 0 0] 52 (0, 0))) (fun k => k = w.heap.size) (wanted_none rfl) (by unfold execOp; simp only []; go_simp) (Chg.of_below ((Below.refl _ _).alloc (Nat.le_refl _) _)) ⟨_, rfl, blk_new _ _, rfl⟩ (fun k hk => .inr ⟨by omega, by simp; omega⟩)
  · refine ⟨⟨fun τ => stableE_ex fun p v w w' O h hz hk => ⟨h.1, stableE_nfbox (fun k hk' => hk'.elim) v w w' O h.2 hz hk⟩, fun τ τ' h => by have e : τ' 5 = τ 5 := h 6 _ 5 rfl rfl rfl; show (fun v w O => ∃ p, τ 5 = _ ∧ NfBox p _ _ w O) = (fun v w O => ∃ p, τ' 5 = _ ∧ NfBox p _ _ w O); rw [e]⟩, ?_⟩
    intro a w O hk
    have f5 := hk.fact 6 _ 5 rfl rfl rfl rfl
    have g5 := hk.owns 6 rfl rfl
    have f17 := hk.fact 2 _ 17 rfl rfl rfl rfl
    have g17 := hk.owns 2 rfl rfl
    have x2 := hk.world.still hx2 (fun ⟨_, h⟩ => h.elim And.right And.right)
    have x3 := hk.world.still hx3 (fun ⟨_, h⟩ => h.elim And.right And.right)
    have hfx : ∀ k, k < b → w.heap[k]? = w0.heap[k]? := fun k hkb => hk.fix k (est2_fix (by have := blk_lt hx2; omega) (fun h => h) (fun h => h))
    have hsz := hk.world.size
    obtain ⟨p, e5, x4, hOp⟩ := f5
    obtain ⟨A, n, cap, e17, h1, h2⟩ := f17
    obtain ⟨z0, z1, y0, y1⟩ := row2 x4
    have hap : ¬ O 2 p := hk.apart 6 2 rfl rfl rfl rfl (by decide) p hOp
    refine obE_store (w' := (w.setCell ⟨p, 0, none⟩ (.int .i64 (shortN (sumP la)).1)).setCell ⟨p, 1, none⟩ (.slice A n cap)) (fun k => k = p ∨ O 2 k) (wanted_none rfl) (by unfold execOp; simp only []; rw [show a.eval (.tmp 5) = _ from e5, show a.eval (.tmp 17) = _ from e17]; go_simp) ((chg_set2 w p _ _).mono fun k h => .inl ⟨6, by simp [eq_C], by have h : k = p := h; rw [h]; exact hOp⟩) ?_ (fun k h => .inl (.inl ?_))
    · exact ⟨p, e5, A, n, cap, set2 x4, .inl rfl, h1, (h2.same fun k hk' hz => (chg_set2 w p _ _).block k hz (fun h => hk'.elim id fun h' => hap (h ▸ h'))).mono fun k hk' _ => .inr (hk'.elim False.elim fun h' => ⟨.inr h', fun h => hap (h ▸ h')⟩)⟩
    · exact h.elim (fun h => ⟨6, by simp [eq_C], h ▸ hOp⟩) fun h => ⟨2, by simp [eq_C], h⟩
  · refine ⟨⟨fun τ => stableE_ex fun p v w w' O h hz hk => ⟨h.1, stableE_nfbox (fun k hk' => hk'.elim) v w w' O h.2 hz hk⟩, fun τ τ' h => by have e : τ' 6 = τ 6 := h 7 _ 6 rfl rfl rfl; show (fun v w O => ∃ p, τ 6 = _ ∧ NfBox p _ _ w O) = (fun v w O => ∃ p, τ' 6 = _ ∧ NfBox p _ _ w O); rw [e]⟩, ?_⟩
    intro a w O hk
    have f6 := hk.fact 7 _ 6 rfl rfl rfl rfl
    have g6 := hk.owns 7 rfl rfl
    have f20 := hk.fact 5 _ 20 rfl rfl rfl rfl
    have g20 := hk.owns 5 rfl rfl
    have x2 := hk.world.still hx2 (fun ⟨_, h⟩ => h.elim And.right And.right)
    have x3 := hk.world.still hx3 (fun ⟨_, h⟩ => h.elim And.right And.right)
    have hfx : ∀ k, k < b → w.heap[k]? = w0.heap[k]? := fun k hkb => hk.fix k (est2_fix (by have := blk_lt hx2; omega) (fun h => h) (fun h => h))
    have hsz := hk.world.size
    obtain ⟨p, e6, x4, hOp⟩ := f6
    obtain ⟨A, n, cap, e20, h1, h2⟩ := f20
    obtain ⟨z0, z1, y0, y1⟩ := row2 x4
    have hap : ¬ O 5 p := hk.apart 7 5 rfl rfl rfl rfl (by decide) p hOp
    refine obE_store (w' := (w.setCell ⟨p, 0, none⟩ (.int .i64 (shortN (sumP lb)).1)).setCell ⟨p, 1, none⟩ (.slice A n cap)) (fun k => k = p ∨ O 5 k) (wanted_none rfl) (by unfold execOp; simp only []; rw [show a.eval (.tmp 6) = _ from e6, show a.eval (.tmp 20) = _ from e20]; go_simp) ((chg_set2 w p _ _).mono fun k h => .inl ⟨7, by simp [eq_C], by have h : k = p := h; rw [h]; exact hOp⟩) ?_ (fun k h => .inl (.inl ?_))
    · exact ⟨p, e6, A, n, cap, set2 x4, .inl rfl, h1, (h2.same fun k hk' hz => (chg_set2 w p _ _).block k hz (fun h => hk'.elim id fun h' => hap (h ▸ h'))).mono fun k hk' _ => .inr (hk'.elim False.elim fun h' => ⟨.inr h', fun h => hap (h ▸ h')⟩)⟩
    · exact h.elim (fun h => ⟨7, by simp [eq_C], h ▸ hOp⟩) fun h => ⟨5, by simp [eq_C], h⟩
set_option maxRecDepth 100000 in
set_option maxHeartbeats 8000000 in
theorem eq_region {Q : Exit → Act → World → Prop} {id : Nat} (w0 : World) (b : Nat) (Aa Ab : Option Addr) (ca cb : Nat) (la lb : Lv) {s0 s1 s4 s5 s6 s7 s8 s9 s10 s11 s12 s13 s14 s15 s16 s17 s18 s19 s20 s21 s22 s23 s24 s25 s26 s27 s28 s29 s30 s31 s32 : Value} (hx2 : w0.heap[b]? = some (.cells #[.int .i64 la.kind, .int .i64 la.num, .slice Aa la.kids.length ca] 24 (0, 0))) (hx3 : w0.heap[b + 1]? = some (.cells #[.int .i64 lb.kind, .int .i64 lb.num, .slice Ab lb.kids.length cb] 24 (0, 0))) (hina : LvIn w0 b Aa ca la) (hinb : LvIn w0 b Ab cb lb) (hsa : soundB la = true) (hsb : soundB lb = true)
    (hend : ∀ (w' : World) (u5 : Value) (u6 : Value) (u16 : Value) (u17 : Value) (u19 : Value) (u20 : Value) (v8 : Value) (O8 : Nat → Prop) (v9 : Value) (O9 : Nat → Prop), Chg (fun k => False ∨ False) w0 w' → (∃ p, u5 = .pointer (some ⟨p, 0, none⟩) ∧ NfBox p (fun _ => False) (shortN (sumP la)) w' O8) → (∀ k, O8 k → k < w'.heap.size ∧ ¬ Fix w0 (est2 0 0 (fun _ => False) (fun _ => False)) k) → (∃ p, u6 = .pointer (some ⟨p, 0, none⟩) ∧ NfBox p (fun _ => False) (shortN (sumP lb)) w' O9) → (∀ k, O9 k → k < w'.heap.size ∧ ¬ Fix w0 (est2 0 0 (fun _ => False) (fun _ => False)) k) → Q .normal { tmps := (s0 :: s1 :: (.pointer (some ⟨b, 0, none⟩) : Value) :: (.pointer (some ⟨b + 1, 0, none⟩) : Value) :: s4 :: u5 :: u6 :: s7 :: s8 :: s9 :: s10 :: s11 :: s12 :: s13 :: s14 :: (lvV Aa ca la : Value) :: u16 :: u17 :: (lvV Ab cb lb : Value) :: u19 :: u20 :: s21 :: s22 :: s23 :: s24 :: s25 :: s26 :: s27 :: s28 :: s29 :: s30 :: s31 :: s32 :: ([] : List Value)).toArray, defers := [] } w') :
    (Code.region id eq_ops.toArray true).wp Try.prog Q { tmps := (s0 :: s1 :: (.pointer (some ⟨b, 0, none⟩) : Value) :: (.pointer (some ⟨b + 1, 0, none⟩) : Value) :: s4 :: s5 :: s6 :: s7 :: s8 :: s9 :: s10 :: s11 :: s12 :: s13 :: s14 :: s15 :: s16 :: s17 :: s18 :: s19 :: s20 :: s21 :: s22 :: s23 :: s24 :: s25 :: s26 :: s27 :: s28 :: s29 :: s30 :: s31 :: s32 :: ([] : List Value)).toArray, defers := [] } w0 := by
  refine wp_region_est (by kernel_rfl) (est2 0 0 (fun _ => False) (fun _ => False)) eq_C (eq_F w0 b Aa Ab ca cb la lb) (est2_dis (fun _ h _ => h)) (est2_range (fun _ h => h.elim) (fun _ h => h.elim)) (by rfl) (by kernel_rfl) (eq_obs w0.drew b Aa Ab ca cb la lb hx2 hx3 (LvS.later hina (below_drew (Below.refl _ _))) (LvS.later hinb (below_drew (Below.refl _ _))) hsa hsb _ _ rfl rfl) ?_
  intro a w' O hd hs hb hf hf2 ha hsame
  have x0 : a.tmps.getD 0 undef = s0 := hsame 0 (nwB.spec (by kernel_rfl))
  have x1 : a.tmps.getD 1 undef = s1 := hsame 1 (nwB.spec (by kernel_rfl))
  have x2 : a.tmps.getD 2 undef = .pointer (some ⟨b, 0, none⟩) := hsame 2 (nwB.spec (by kernel_rfl))
  have x3 : a.tmps.getD 3 undef = .pointer (some ⟨b + 1, 0, none⟩) := hsame 3 (nwB.spec (by kernel_rfl))
  have x4 : a.tmps.getD 4 undef = s4 := hsame 4 (nwB.spec (by kernel_rfl))
  have x7 : a.tmps.getD 7 undef = s7 := hsame 7 (nwB.spec (by kernel_rfl))
  have x8 : a.tmps.getD 8 undef = s8 := hsame 8 (nwB.spec (by kernel_rfl))
  have x9 : a.tmps.getD 9 undef = s9 := hsame 9 (nwB.spec (by kernel_rfl))
  have x10 : a.tmps.getD 10 undef = s10 := hsame 10 (nwB.spec (by kernel_rfl))
  have x11 : a.tmps.getD 11 undef = s11 := hsame 11 (nwB.spec (by kernel_rfl))
  have x12 : a.tmps.getD 12 undef = s12 := hsame 12 (nwB.spec (by kernel_rfl))
  have x13 : a.tmps.getD 13 undef = s13 := hsame 13 (nwB.spec (by kernel_rfl))
  have x14 : a.tmps.getD 14 undef = s14 := hsame 14 (nwB.spec (by kernel_rfl))
  have x15 : a.tmps.getD 15 undef = lvV Aa ca la := (hf 0 _ 15 rfl rfl (by decide)).1
  have x18 : a.tmps.getD 18 undef = lvV Ab cb lb := (hf 3 _ 18 rfl rfl (by decide)).1
  have x21 : a.tmps.getD 21 undef = s21 := hsame 21 (nwB.spec (by kernel_rfl))
  have x22 : a.tmps.getD 22 undef = s22 := hsame 22 (nwB.spec (by kernel_rfl))
  have x23 : a.tmps.getD 23 undef = s23 := hsame 23 (nwB.spec (by kernel_rfl))
  have x24 : a.tmps.getD 24 undef = s24 := hsame 24 (nwB.spec (by kernel_rfl))
  have x25 : a.tmps.getD 25 undef = s25 := hsame 25 (nwB.spec (by kernel_rfl))
  have x26 : a.tmps.getD 26 undef = s26 := hsame 26 (nwB.spec (by kernel_rfl))
  have x27 : a.tmps.getD 27 undef = s27 := hsame 27 (nwB.spec (by kernel_rfl))
  have x28 : a.tmps.getD 28 undef = s28 := hsame 28 (nwB.spec (by kernel_rfl))
  have x29 : a.tmps.getD 29 undef = s29 := hsame 29 (nwB.spec (by kernel_rfl))
  have x30 : a.tmps.getD 30 undef = s30 := hsame 30 (nwB.spec (by kernel_rfl))
  have x31 : a.tmps.getD 31 undef = s31 := hsame 31 (nwB.spec (by kernel_rfl))
  have x32 : a.tmps.getD 32 undef = s32 := hsame 32 (nwB.spec (by kernel_rfl))
  have hl : a.tmps = (s0 :: s1 :: (.pointer (some ⟨b, 0, none⟩) : Value) :: (.pointer (some ⟨b + 1, 0, none⟩) : Value) :: s4 :: (a.tmps.getD 5 undef : Value) :: (a.tmps.getD 6 undef : Value) :: s7 :: s8 :: s9 :: s10 :: s11 :: s12 :: s13 :: s14 :: (lvV Aa ca la : Value) :: (a.tmps.getD 16 undef : Value) :: (a.tmps.getD 17 undef : Value) :: (lvV Ab cb lb : Value) :: (a.tmps.getD 19 undef : Value) :: (a.tmps.getD 20 undef : Value) :: s21 :: s22 :: s23 :: s24 :: s25 :: s26 :: s27 :: s28 :: s29 :: s30 :: s31 :: s32 :: ([] : List Value)).toArray := by
    have h := lit a.tmps 33 hs
    have e : ((List.range 33).map (fun i => a.tmps.getD i undef)).toArray = ((a.tmps.getD 0 undef : Value) :: (a.tmps.getD 1 undef : Value) :: (a.tmps.getD 2 undef : Value) :: (a.tmps.getD 3 undef : Value) :: (a.tmps.getD 4 undef : Value) :: (a.tmps.getD 5 undef : Value) :: (a.tmps.getD 6 undef : Value) :: (a.tmps.getD 7 undef : Value) :: (a.tmps.getD 8 undef : Value) :: (a.tmps.getD 9 undef : Value) :: (a.tmps.getD 10 undef : Value) :: (a.tmps.getD 11 undef : Value) :: (a.tmps.getD 12 undef : Value) :: (a.tmps.getD 13 undef : Value) :: (a.tmps.getD 14 undef : Value) :: (a.tmps.getD 15 undef : Value) :: (a.tmps.getD 16 undef : Value) :: (a.tmps.getD 17 undef : Value) :: (a.tmps.getD 18 undef : Value) :: (a.tmps.getD 19 undef : Value) :: (a.tmps.getD 20 undef : Value) :: (a.tmps.getD 21 undef : Value) :: (a.tmps.getD 22 undef : Value) :: (a.tmps.getD 23 undef : Value) :: (a.tmps.getD 24 undef : Value) :: (a.tmps.getD 25 undef : Value) :: (a.tmps.getD 26 undef : Value) :: (a.tmps.getD 27 undef : Value) :: (a.tmps.getD 28 undef : Value) :: (a.tmps.getD 29 undef : Value) :: (a.tmps.getD 30 undef : Value) :: (a.tmps.getD 31 undef : Value) :: (a.tmps.getD 32 undef : Value) :: ([] : List Value)).toArray := rfl
    rw [e, x0, x1, x2, x3, x4, x7, x8, x9, x10, x11, x12, x13, x14, x15, x18, x21, x22, x23, x24, x25, x26, x27, x28, x29, x30, x31, x32] at h
    exact h
  obtain ⟨tmps, defers⟩ := a
  obtain rfl : defers = [] := hd
  have hl' : tmps = _ := hl
  rw [hl']
  obtain ⟨⟨v8, hv8⟩, ho8⟩ := hf2 8 _ rfl rfl (by decide)
  obtain ⟨⟨v9, hv9⟩, ho9⟩ := hf2 9 _ rfl rfl (by decide)
  have hb' := est2_chg hb
  exact hend w' _ _ _ _ _ _ v8 (O 8) v9 (O 9) ⟨hb'.os, hb'.tape, hb'.output, hb'.size, hb'.block⟩ hv8 ho8 hv9 ho9

def le_ops : List Oper := [
  { dst := some 20, op := Go.Op.load 24 (Go.Operand.tmp 2), type := 24, pos := "level.go:254", after := #[], guard := none },
  { dst := some 21, op := Go.Op.call { callee := Go.Callee.value (Go.Operand.func 34), args := #[Go.Operand.tmp 20, Go.Operand.const (Go.Value.slice none 0 0)], argTypes := #[24, 59] }, type := 52, pos := "level.go:254", after := #[{ on := 0, ground := Go.Ground.data }], guard := none },
  { dst := some 22, op := Go.Op.call { callee := Go.Callee.value (Go.Operand.func 38), args := #[Go.Operand.tmp 21], argTypes := #[52] }, type := 52, pos := "level.go:254", after := #[{ on := 1, ground := Go.Ground.data }, { on := 1, ground := Go.Ground.chain }], guard := none },
  { dst := some 23, op := Go.Op.load 24 (Go.Operand.tmp 3), type := 24, pos := "level.go:254", after := #[], guard := none },
  { dst := some 24, op := Go.Op.call { callee := Go.Callee.value (Go.Operand.func 34), args := #[Go.Operand.tmp 23, Go.Operand.const (Go.Value.slice none 0 0)], argTypes := #[24, 59] }, type := 52, pos := "level.go:254", after := #[{ on := 3, ground := Go.Ground.data }, { on := 2, ground := Go.Ground.chain }], guard := none },
  { dst := some 25, op := Go.Op.call { callee := Go.Callee.value (Go.Operand.func 38), args := #[Go.Operand.tmp 24], argTypes := #[52] }, type := 52, pos := "level.go:254", after := #[{ on := 4, ground := Go.Ground.data }, { on := 4, ground := Go.Ground.chain }], guard := none },
  { dst := some 5, op := Go.Op.alloc 52, type := 0, pos := "level.go:254", after := #[], guard := none },
  { dst := some 6, op := Go.Op.alloc 52, type := 0, pos := "level.go:254", after := #[], guard := none },
  { dst := none, op := Go.Op.store 52 (Go.Operand.tmp 5) (Go.Operand.tmp 22), type := 0, pos := "level.go:254", after := #[{ on := 6, ground := Go.Ground.data }, { on := 2, ground := Go.Ground.data }, { on := 5, ground := Go.Ground.chain }, { on := 0, ground := Go.Ground.phase }, { on := 1, ground := Go.Ground.phase }, { on := 2, ground := Go.Ground.phase }, { on := 3, ground := Go.Ground.textOnly Go.Departure.lateStores }, { on := 4, ground := Go.Ground.textOnly Go.Departure.lateStoresUnsure }, { on := 5, ground := Go.Ground.textOnly Go.Departure.lateStoresUnsure }, { on := 6, ground := Go.Ground.phase }, { on := 7, ground := Go.Ground.phase }], guard := none },
  { dst := none, op := Go.Op.store 52 (Go.Operand.tmp 6) (Go.Operand.tmp 25), type := 0, pos := "level.go:254", after := #[{ on := 7, ground := Go.Ground.data }, { on := 5, ground := Go.Ground.data }, { on := 8, ground := Go.Ground.chain }, { on := 0, ground := Go.Ground.phase }, { on := 1, ground := Go.Ground.phase }, { on := 2, ground := Go.Ground.phase }, { on := 3, ground := Go.Ground.phase }, { on := 4, ground := Go.Ground.phase }, { on := 5, ground := Go.Ground.phase }, { on := 6, ground := Go.Ground.phase }, { on := 7, ground := Go.Ground.phase }, { on := 8, ground := Go.Ground.phase }], guard := none }]
def le_F (w0 : World) (b : Nat) (Aa Ab : Option Addr) (ca cb : Nat) (la lb : Lv) : Nat → (Nat → Value) → Value → World → (Nat → Prop) → Prop := fun rix => match rix with
  | 0 => fun _ v _ _ => v = lvV Aa ca la
  | 1 => fun τ v w O => NfV (fun _ => False) (sumP la) v w O
  | 2 => fun τ v w O => NfV (fun _ => False) (shortN (sumP la)) v w O
  | 3 => fun _ v _ _ => v = lvV Ab cb lb
  | 4 => fun τ v w O => NfV (fun _ => False) (sumP lb) v w O
  | 5 => fun τ v w O => NfV (fun _ => False) (shortN (sumP lb)) v w O
  | 6 => fun τ v w O => ∃ p, v = .pointer (some ⟨p, 0, none⟩) ∧ w.heap[p]? = some (.cells #[.int .i64 0, .slice none 0 0] 52 (0, 0)) ∧ O p
  | 7 => fun τ v w O => ∃ p, v = .pointer (some ⟨p, 0, none⟩) ∧ w.heap[p]? = some (.cells #[.int .i64 0, .slice none 0 0] 52 (0, 0)) ∧ O p
  | 8 => fun τ v w O => ∃ p, τ 5 = .pointer (some ⟨p, 0, none⟩) ∧ NfBox p (fun _ => False) (shortN (sumP la)) w O
  | 9 => fun τ v w O => ∃ p, τ 6 = .pointer (some ⟨p, 0, none⟩) ∧ NfBox p (fun _ => False) (shortN (sumP lb)) w O
  | _ => fun _ _ _ _ => True
def le_C : Nat → List Nat := fun rix => match rix with
  | 2 => [1]
  | 5 => [4]
  | 8 => [6, 2]
  | 9 => [7, 5]
  | _ => []
theorem le_nw2 : nwB le_ops.toArray 2 = true := by kernel_rfl
theorem le_nw3 : nwB le_ops.toArray 3 = true := by kernel_rfl
set_option maxRecDepth 100000 in
set_option maxHeartbeats 8000000 in
theorem le_obs (w0 : World) (b : Nat) (Aa Ab : Option Addr) (ca cb : Nat) (la lb : Lv) (hx2 : w0.heap[b]? = some (.cells #[.int .i64 la.kind, .int .i64 la.num, .slice Aa la.kids.length ca] 24 (0, 0))) (hx3 : w0.heap[b + 1]? = some (.cells #[.int .i64 lb.kind, .int .i64 lb.num, .slice Ab lb.kids.length cb] 24 (0, 0))) (hina : LvIn w0 b Aa ca la) (hinb : LvIn w0 b Ab cb lb) (hsa : soundB la = true) (hsb : soundB lb = true) (Q : Exit → Act → World → Prop) (a0 : Act) (hi2 : a0.tmps.getD 2 undef = .pointer (some ⟨b, 0, none⟩)) (hi3 : a0.tmps.getD 3 undef = .pointer (some ⟨b + 1, 0, none⟩)) :
    ObsE Try.prog le_ops.toArray Q (est2 0 0 (fun _ => False) (fun _ => False)) le_C (le_F w0 b Aa Ab ca cb la lb) a0 w0 le_ops.toArray.toList 0 := by
  have nw2 := le_nw2
  have nw3 := le_nw3
  refine ⟨?_, ?_, ?_, ?_, ?_, ?_, ?_, ?_, ?_, ?_, trivial⟩
  · refine ⟨⟨fun τ => stableE_det _, leans_not⟩, ?_⟩
    intro a w O hk
    have e2 : a.eval (.tmp 2) = .pointer (some ⟨b, 0, none⟩) := (hk.init 2 (initialB_of_nw nw2)).trans hi2
    have x2 := hk.world.still hx2 (fun ⟨_, h⟩ => h.elim And.right And.right)
    have x3 := hk.world.still hx3 (fun ⟨_, h⟩ => h.elim And.right And.right)
    have hfx : ∀ k, k < b → w.heap[k]? = w0.heap[k]? := fun k hkb => hk.fix k (est2_fix (by have := blk_lt hx2; omega) (fun h => h) (fun h => h))
    have hsz := hk.world.size
    exact obE_loadRow rfl e2 x2 Try.underlying24 rfl (by kernel_rfl) (wanted_none rfl) rfl
  · refine ⟨⟨fun τ => stableE_nf (fun k hk' => hk'.elim), leans_not⟩, ?_⟩
    intro a w O hk
    have e20 : a.eval (.tmp 20) = lvV Aa ca la := hk.fact 0 _ 20 rfl rfl rfl rfl
    have x2 := hk.world.still hx2 (fun ⟨_, h⟩ => h.elim And.right And.right)
    have x3 := hk.world.still hx3 (fun ⟨_, h⟩ => h.elim And.right And.right)
    have hfx : ∀ k, k < b → w.heap[k]? = w0.heap[k]? := fun k hkb => hk.fix k (est2_fix (by have := blk_lt hx2; omega) (fun h => h) (fun h => h))
    have hsz := hk.world.size
    refine obE_callNew #[lvV Aa ca la, .slice none 0 0] rfl rfl rfl rfl (by simp only [List.map_cons, List.map_nil]; rw [e20]; rfl) (wanted_none rfl) ((of_nil_calls la hsa Aa ca w ((hina.same fun k hk' _ => hfx k hk').mono fun k hk' _ => by have := blk_lt hx2; omega)).mono ?_)
    intro e w' h
    exact NfV.of_got h
  · refine ⟨⟨fun τ => stableE_nf (fun k hk' => hk'.elim), leans_not⟩, ?_⟩
    intro a w O hk
    have f21 := hk.fact 1 _ 21 rfl rfl rfl rfl
    have g21 := hk.owns 1 rfl rfl
    have x2 := hk.world.still hx2 (fun ⟨_, h⟩ => h.elim And.right And.right)
    have x3 := hk.world.still hx3 (fun ⟨_, h⟩ => h.elim And.right And.right)
    have hfx : ∀ k, k < b → w.heap[k]? = w0.heap[k]? := fun k hkb => hk.fix k (est2_fix (by have := blk_lt hx2; omega) (fun h => h) (fun h => h))
    have hsz := hk.world.size
    obtain ⟨A, n, cap, e21, h1, h2⟩ := f21
    refine obE_call #[.agg #[.int .i64 (sumP la).1, .slice A n cap]] rfl rfl rfl rfl (by simp only [List.map_cons, List.map_nil]; rw [show a.eval (.tmp 21) = _ from e21]) (wanted_none rfl) ((short_calls (O 1) A n cap (sumP la).1 (sumP la).2 w (h2.mono fun k hk' _ => hk'.elim False.elim id) h1).mono ?_)
    rintro e w' ⟨A', n', cap', rfl, h1', h2', hB⟩
    exact ⟨_, fun k => k < w'.heap.size ∧ (O 1 k ∨ w.heap.size ≤ k), rfl, ⟨A', n', cap', rfl, h1', h2'.mono fun k hk' hz => .inr ⟨hz, hk'⟩⟩, Chg.of_below hB, fun k h => h.2.elim (fun h' => .inl (.inl ⟨1, by simp [le_C], h'⟩)) fun h' => .inr ⟨h', h.1⟩⟩
  · refine ⟨⟨fun τ => stableE_det _, leans_not⟩, ?_⟩
    intro a w O hk
    have e3 : a.eval (.tmp 3) = .pointer (some ⟨b + 1, 0, none⟩) := (hk.init 3 (initialB_of_nw nw3)).trans hi3
    have x2 := hk.world.still hx2 (fun ⟨_, h⟩ => h.elim And.right And.right)
    have x3 := hk.world.still hx3 (fun ⟨_, h⟩ => h.elim And.right And.right)
    have hfx : ∀ k, k < b → w.heap[k]? = w0.heap[k]? := fun k hkb => hk.fix k (est2_fix (by have := blk_lt hx2; omega) (fun h => h) (fun h => h))
    have hsz := hk.world.size
    exact obE_loadRow rfl e3 x3 Try.underlying24 rfl (by kernel_rfl) (wanted_none rfl) rfl
  · refine ⟨⟨fun τ => stableE_nf (fun k hk' => hk'.elim), leans_not⟩, ?_⟩
    intro a w O hk
    have e23 : a.eval (.tmp 23) = lvV Ab cb lb := hk.fact 3 _ 23 rfl rfl rfl rfl
    have x2 := hk.world.still hx2 (fun ⟨_, h⟩ => h.elim And.right And.right)
    have x3 := hk.world.still hx3 (fun ⟨_, h⟩ => h.elim And.right And.right)
    have hfx : ∀ k, k < b → w.heap[k]? = w0.heap[k]? := fun k hkb => hk.fix k (est2_fix (by have := blk_lt hx2; omega) (fun h => h) (fun h => h))
    have hsz := hk.world.size
    refine obE_callNew #[lvV Ab cb lb, .slice none 0 0] rfl rfl rfl rfl (by simp only [List.map_cons, List.map_nil]; rw [e23]; rfl) (wanted_none rfl) ((of_nil_calls lb hsb Ab cb w ((hinb.same fun k hk' _ => hfx k hk').mono fun k hk' _ => by have := blk_lt hx2; omega)).mono ?_)
    intro e w' h
    exact NfV.of_got h
  · refine ⟨⟨fun τ => stableE_nf (fun k hk' => hk'.elim), leans_not⟩, ?_⟩
    intro a w O hk
    have f24 := hk.fact 4 _ 24 rfl rfl rfl rfl
    have g24 := hk.owns 4 rfl rfl
    have x2 := hk.world.still hx2 (fun ⟨_, h⟩ => h.elim And.right And.right)
    have x3 := hk.world.still hx3 (fun ⟨_, h⟩ => h.elim And.right And.right)
    have hfx : ∀ k, k < b → w.heap[k]? = w0.heap[k]? := fun k hkb => hk.fix k (est2_fix (by have := blk_lt hx2; omega) (fun h => h) (fun h => h))
    have hsz := hk.world.size
    obtain ⟨A, n, cap, e24, h1, h2⟩ := f24
    refine obE_call #[.agg #[.int .i64 (sumP lb).1, .slice A n cap]] rfl rfl rfl rfl (by simp only [List.map_cons, List.map_nil]; rw [show a.eval (.tmp 24) = _ from e24]) (wanted_none rfl) ((short_calls (O 4) A n cap (sumP lb).1 (sumP lb).2 w (h2.mono fun k hk' _ => hk'.elim False.elim id) h1).mono ?_)
    rintro e w' ⟨A', n', cap', rfl, h1', h2', hB⟩
    exact ⟨_, fun k => k < w'.heap.size ∧ (O 4 k ∨ w.heap.size ≤ k), rfl, ⟨A', n', cap', rfl, h1', h2'.mono fun k hk' hz => .inr ⟨hz, hk'⟩⟩, Chg.of_below hB, fun k h => h.2.elim (fun h' => .inl (.inl ⟨4, by simp [le_C], h'⟩)) fun h' => .inr ⟨h', h.1⟩⟩
  · refine ⟨⟨fun τ => stableE_ex fun p => stableE_and stableE_pure (stableE_block _ _), leans_not⟩, ?_⟩
    intro a w O hk
    have x2 := hk.world.still hx2 (fun ⟨_, h⟩ => h.elim And.right And.right)
    have x3 := hk.world.still hx3 (fun ⟨_, h⟩ => h.elim And.right And.right)
    have hfx : ∀ k, k < b → w.heap[k]? = w0.heap[k]? := fun k hkb => hk.fix k (est2_fix (by have := blk_lt hx2; omega) (fun h => h) (fun h => h))
    have hsz := hk.world.size
    exact obE_res (w' := w.alloc (.cells #[.int .i64 0, .slice none 0 0] 52 (0, 0))) (fun k => k = w.heap.size) (wanted_none rfl) (by unfold execOp; simp only []; go_simp) (Chg.of_below ((Below.refl _ _).alloc (Nat.le_refl _) _)) ⟨_, rfl, blk_new _ _, rfl⟩ (fun k hk => .inr ⟨by omega, by simp; omega⟩)
  · refine ⟨⟨fun τ => stableE_ex fun p => stableE_and stableE_pure (stableE_block _ _), leans_not⟩, ?_⟩
    intro a w O hk
    have x2 := hk.world.still hx2 (fun ⟨_, h⟩ => h.elim And.right And.right)
    have x3 := hk.world.still hx3 (fun ⟨_, h⟩ => h.elim And.right And.right)
    have hfx : ∀ k, k < b → w.heap[k]? = w0.heap[k]? := fun k hkb => hk.fix k (est2_fix (by have := blk_lt hx2; omega) (fun h => h) (fun h => h))
    have hsz := hk.world.size
    exact obE_res (w' := w.alloc (.cells #[.int .i64 0, .slice none 0 0] 52 (0, 0))) (fun k => k = w.heap.size) (wanted_none rfl) (by unfold execOp; simp only []; go_simp) (Chg.of_below ((Below.refl _ _).alloc (Nat.le_refl _) _)) ⟨_, rfl, blk_new _ _, rfl⟩ (fun k hk => .inr ⟨by omega, by simp; omega⟩)
  · refine ⟨⟨fun τ => stableE_ex fun p v w w' O h hz hk => ⟨h.1, stableE_nfbox (fun k hk' => hk'.elim) v w w' O h.2 hz hk⟩, fun τ τ' h => by have e : τ' 5 = τ 5 := h 6 _ 5 rfl rfl rfl; show (fun v w O => ∃ p, τ 5 = _ ∧ NfBox p _ _ w O) = (fun v w O => ∃ p, τ' 5 = _ ∧ NfBox p _ _ w O); rw [e]⟩, ?_⟩
    intro a w O hk
    have f5 := hk.fact 6 _ 5 rfl rfl rfl rfl
    have g5 := hk.owns 6 rfl rfl
    have f22 := hk.fact 2 _ 22 rfl rfl rfl rfl
    have g22 := hk.owns 2 rfl rfl
    have x2 := hk.world.still hx2 (fun ⟨_, h⟩ => h.elim And.right And.right)
    have x3 := hk.world.still hx3 (fun ⟨_, h⟩ => h.elim And.right And.right)
    have hfx : ∀ k, k < b → w.heap[k]? = w0.heap[k]? := fun k hkb => hk.fix k (est2_fix (by have := blk_lt hx2; omega) (fun h => h) (fun h => h))
    have hsz := hk.world.size
    obtain ⟨p, e5, x4, hOp⟩ := f5
    obtain ⟨A, n, cap, e22, h1, h2⟩ := f22
    obtain ⟨z0, z1, y0, y1⟩ := row2 x4
    have hap : ¬ O 2 p := hk.apart 6 2 rfl rfl rfl rfl (by decide) p hOp
    refine obE_store (w' := (w.setCell ⟨p, 0, none⟩ (.int .i64 (shortN (sumP la)).1)).setCell ⟨p, 1, none⟩ (.slice A n cap)) (fun k => k = p ∨ O 2 k) (wanted_none rfl) (by unfold execOp; simp only []; rw [show a.eval (.tmp 5) = _ from e5, show a.eval (.tmp 22) = _ from e22]; go_simp) ((chg_set2 w p _ _).mono fun k h => .inl ⟨6, by simp [le_C], by have h : k = p := h; rw [h]; exact hOp⟩) ?_ (fun k h => .inl (.inl ?_))
    · exact ⟨p, e5, A, n, cap, set2 x4, .inl rfl, h1, (h2.same fun k hk' hz => (chg_set2 w p _ _).block k hz (fun h => hk'.elim id fun h' => hap (h ▸ h'))).mono fun k hk' _ => .inr (hk'.elim False.elim fun h' => ⟨.inr h', fun h => hap (h ▸ h')⟩)⟩
    · exact h.elim (fun h => ⟨6, by simp [le_C], h ▸ hOp⟩) fun h => ⟨2, by simp [le_C], h⟩
  · refine ⟨⟨fun τ => stableE_ex fun p v w w' O h hz hk => ⟨h.1, stableE_nfbox (fun k hk' => hk'.elim) v w w' O h.2 hz hk⟩, fun τ τ' h => by have e : τ' 6 = τ 6 := h 7 _ 6 rfl rfl rfl; show (fun v w O => ∃ p, τ 6 = _ ∧ NfBox p _ _ w O) = (fun v w O => ∃ p, τ' 6 = _ ∧ NfBox p _ _ w O); rw [e]⟩, ?_⟩
    intro a w O hk
    have f6 := hk.fact 7 _ 6 rfl rfl rfl rfl
    have g6 := hk.owns 7 rfl rfl
    have f25 := hk.fact 5 _ 25 rfl rfl rfl rfl
    have g25 := hk.owns 5 rfl rfl
    have x2 := hk.world.still hx2 (fun ⟨_, h⟩ => h.elim And.right And.right)
    have x3 := hk.world.still hx3 (fun ⟨_, h⟩ => h.elim And.right And.right)
    have hfx : ∀ k, k < b → w.heap[k]? = w0.heap[k]? := fun k hkb => hk.fix k (est2_fix (by have := blk_lt hx2; omega) (fun h => h) (fun h => h))
    have hsz := hk.world.size
    obtain ⟨p, e6, x4, hOp⟩ := f6
    obtain ⟨A, n, cap, e25, h1, h2⟩ := f25
    obtain ⟨z0, z1, y0, y1⟩ := row2 x4
    have hap : ¬ O 5 p := hk.apart 7 5 rfl rfl rfl rfl (by decide) p hOp
    refine obE_store (w' := (w.setCell ⟨p, 0, none⟩ (.int .i64 (shortN (sumP lb)).1)).setCell ⟨p, 1, none⟩ (.slice A n cap)) (fun k => k = p ∨ O 5 k) (wanted_none rfl) (by unfold execOp; simp only []; rw [show a.eval (.tmp 6) = _ from e6, show a.eval (.tmp 25) = _ from e25]; go_simp) ((chg_set2 w p _ _).mono fun k h => .inl ⟨7, by simp [le_C], by have h : k = p := h; rw [h]; exact hOp⟩) ?_ (fun k h => .inl (.inl ?_))
    · exact ⟨p, e6, A, n, cap, set2 x4, .inl rfl, h1, (h2.same fun k hk' hz => (chg_set2 w p _ _).block k hz (fun h => hk'.elim id fun h' => hap (h ▸ h'))).mono fun k hk' _ => .inr (hk'.elim False.elim fun h' => ⟨.inr h', fun h => hap (h ▸ h')⟩)⟩
    · exact h.elim (fun h => ⟨7, by simp [le_C], h ▸ hOp⟩) fun h => ⟨5, by simp [le_C], h⟩
set_option maxRecDepth 100000 in
set_option maxHeartbeats 8000000 in
theorem le_region {Q : Exit → Act → World → Prop} {id : Nat} (w0 : World) (b : Nat) (Aa Ab : Option Addr) (ca cb : Nat) (la lb : Lv) {s0 s1 s4 s5 s6 s7 s8 s9 s10 s11 s12 s13 s14 s15 s16 s17 s18 s19 s20 s21 s22 s23 s24 s25 s26 s27 s28 s29 s30 s31 s32 s33 s34 s35 s36 s37 s38 s39 s40 s41 s42 s43 s44 s45 s46 s47 s48 s49 s50 s51 s52 s53 s54 s55 s56 : Value} (hx2 : w0.heap[b]? = some (.cells #[.int .i64 la.kind, .int .i64 la.num, .slice Aa la.kids.length ca] 24 (0, 0))) (hx3 : w0.heap[b + 1]? = some (.cells #[.int .i64 lb.kind, .int .i64 lb.num, .slice Ab lb.kids.length cb] 24 (0, 0))) (hina : LvIn w0 b Aa ca la) (hinb : LvIn w0 b Ab cb lb) (hsa : soundB la = true) (hsb : soundB lb = true)
    (hend : ∀ (w' : World) (u5 : Value) (u6 : Value) (u21 : Value) (u22 : Value) (u24 : Value) (u25 : Value) (v8 : Value) (O8 : Nat → Prop) (v9 : Value) (O9 : Nat → Prop), Chg (fun k => False ∨ False) w0 w' → (∃ p, u5 = .pointer (some ⟨p, 0, none⟩) ∧ NfBox p (fun _ => False) (shortN (sumP la)) w' O8) → (∀ k, O8 k → k < w'.heap.size ∧ ¬ Fix w0 (est2 0 0 (fun _ => False) (fun _ => False)) k) → (∃ p, u6 = .pointer (some ⟨p, 0, none⟩) ∧ NfBox p (fun _ => False) (shortN (sumP lb)) w' O9) → (∀ k, O9 k → k < w'.heap.size ∧ ¬ Fix w0 (est2 0 0 (fun _ => False) (fun _ => False)) k) → Q .normal { tmps := (s0 :: s1 :: (.pointer (some ⟨b, 0, none⟩) : Value) :: (.pointer (some ⟨b + 1, 0, none⟩) : Value) :: s4 :: u5 :: u6 :: s7 :: s8 :: s9 :: s10 :: s11 :: s12 :: s13 :: s14 :: s15 :: s16 :: s17 :: s18 :: s19 :: (lvV Aa ca la : Value) :: u21 :: u22 :: (lvV Ab cb lb : Value) :: u24 :: u25 :: s26 :: s27 :: s28 :: s29 :: s30 :: s31 :: s32 :: s33 :: s34 :: s35 :: s36 :: s37 :: s38 :: s39 :: s40 :: s41 :: s42 :: s43 :: s44 :: s45 :: s46 :: s47 :: s48 :: s49 :: s50 :: s51 :: s52 :: s53 :: s54 :: s55 :: s56 :: ([] : List Value)).toArray, defers := [] } w') :
    (Code.region id le_ops.toArray true).wp Try.prog Q { tmps := (s0 :: s1 :: (.pointer (some ⟨b, 0, none⟩) : Value) :: (.pointer (some ⟨b + 1, 0, none⟩) : Value) :: s4 :: s5 :: s6 :: s7 :: s8 :: s9 :: s10 :: s11 :: s12 :: s13 :: s14 :: s15 :: s16 :: s17 :: s18 :: s19 :: s20 :: s21 :: s22 :: s23 :: s24 :: s25 :: s26 :: s27 :: s28 :: s29 :: s30 :: s31 :: s32 :: s33 :: s34 :: s35 :: s36 :: s37 :: s38 :: s39 :: s40 :: s41 :: s42 :: s43 :: s44 :: s45 :: s46 :: s47 :: s48 :: s49 :: s50 :: s51 :: s52 :: s53 :: s54 :: s55 :: s56 :: ([] : List Value)).toArray, defers := [] } w0 := by
  refine wp_region_est (by kernel_rfl) (est2 0 0 (fun _ => False) (fun _ => False)) le_C (le_F w0 b Aa Ab ca cb la lb) (est2_dis (fun _ h _ => h)) (est2_range (fun _ h => h.elim) (fun _ h => h.elim)) (by rfl) (by kernel_rfl) (le_obs w0.drew b Aa Ab ca cb la lb hx2 hx3 (LvS.later hina (below_drew (Below.refl _ _))) (LvS.later hinb (below_drew (Below.refl _ _))) hsa hsb _ _ rfl rfl) ?_
  intro a w' O hd hs hb hf hf2 ha hsame
  have x0 : a.tmps.getD 0 undef = s0 := hsame 0 (nwB.spec (by kernel_rfl))
  have x1 : a.tmps.getD 1 undef = s1 := hsame 1 (nwB.spec (by kernel_rfl))
  have x2 : a.tmps.getD 2 undef = .pointer (some ⟨b, 0, none⟩) := hsame 2 (nwB.spec (by kernel_rfl))
  have x3 : a.tmps.getD 3 undef = .pointer (some ⟨b + 1, 0, none⟩) := hsame 3 (nwB.spec (by kernel_rfl))
  have x4 : a.tmps.getD 4 undef = s4 := hsame 4 (nwB.spec (by kernel_rfl))
  have x7 : a.tmps.getD 7 undef = s7 := hsame 7 (nwB.spec (by kernel_rfl))
  have x8 : a.tmps.getD 8 undef = s8 := hsame 8 (nwB.spec (by kernel_rfl))
  have x9 : a.tmps.getD 9 undef = s9 := hsame 9 (nwB.spec (by kernel_rfl))
  have x10 : a.tmps.getD 10 undef = s10 := hsame 10 (nwB.spec (by kernel_rfl))
  have x11 : a.tmps.getD 11 undef = s11 := hsame 11 (nwB.spec (by kernel_rfl))
  have x12 : a.tmps.getD 12 undef = s12 := hsame 12 (nwB.spec (by kernel_rfl))
  have x13 : a.tmps.getD 13 undef = s13 := hsame 13 (nwB.spec (by kernel_rfl))
  have x14 : a.tmps.getD 14 undef = s14 := hsame 14 (nwB.spec (by kernel_rfl))
  have x15 : a.tmps.getD 15 undef = s15 := hsame 15 (nwB.spec (by kernel_rfl))
  have x16 : a.tmps.getD 16 undef = s16 := hsame 16 (nwB.spec (by kernel_rfl))
  have x17 : a.tmps.getD 17 undef = s17 := hsame 17 (nwB.spec (by kernel_rfl))
  have x18 : a.tmps.getD 18 undef = s18 := hsame 18 (nwB.spec (by kernel_rfl))
  have x19 : a.tmps.getD 19 undef = s19 := hsame 19 (nwB.spec (by kernel_rfl))
  have x20 : a.tmps.getD 20 undef = lvV Aa ca la := (hf 0 _ 20 rfl rfl (by decide)).1
  have x23 : a.tmps.getD 23 undef = lvV Ab cb lb := (hf 3 _ 23 rfl rfl (by decide)).1
  have x26 : a.tmps.getD 26 undef = s26 := hsame 26 (nwB.spec (by kernel_rfl))
  have x27 : a.tmps.getD 27 undef = s27 := hsame 27 (nwB.spec (by kernel_rfl))
  have x28 : a.tmps.getD 28 undef = s28 := hsame 28 (nwB.spec (by kernel_rfl))
  have x29 : a.tmps.getD 29 undef = s29 := hsame 29 (nwB.spec (by kernel_rfl))
  have x30 : a.tmps.getD 30 undef = s30 := hsame 30 (nwB.spec (by kernel_rfl))
  have x31 : a.tmps.getD 31 undef = s31 := hsame 31 (nwB.spec (by kernel_rfl))
  have x32 : a.tmps.getD 32 undef = s32 := hsame 32 (nwB.spec (by kernel_rfl))
  have x33 : a.tmps.getD 33 undef = s33 := hsame 33 (nwB.spec (by kernel_rfl))
  have x34 : a.tmps.getD 34 undef = s34 := hsame 34 (nwB.spec (by kernel_rfl))
  have x35 : a.tmps.getD 35 undef = s35 := hsame 35 (nwB.spec (by kernel_rfl))
  have x36 : a.tmps.getD 36 undef = s36 := hsame 36 (nwB.spec (by kernel_rfl))
  have x37 : a.tmps.getD 37 undef = s37 := hsame 37 (nwB.spec (by kernel_rfl))
  have x38 : a.tmps.getD 38 undef = s38 := hsame 38 (nwB.spec (by kernel_rfl))
  have x39 : a.tmps.getD 39 undef = s39 := hsame 39 (nwB.spec (by kernel_rfl))
  have x40 : a.tmps.getD 40 undef = s40 := hsame 40 (nwB.spec (by kernel_rfl))
  have x41 : a.tmps.getD 41 undef = s41 := hsame 41 (nwB.spec (by kernel_rfl))
  have x42 : a.tmps.getD 42 undef = s42 := hsame 42 (nwB.spec (by kernel_rfl))
  have x43 : a.tmps.getD 43 undef = s43 := hsame 43 (nwB.spec (by kernel_rfl))
  have x44 : a.tmps.getD 44 undef = s44 := hsame 44 (nwB.spec (by kernel_rfl))
  have x45 : a.tmps.getD 45 undef = s45 := hsame 45 (nwB.spec (by kernel_rfl))
  have x46 : a.tmps.getD 46 undef = s46 := hsame 46 (nwB.spec (by kernel_rfl))
  have x47 : a.tmps.getD 47 undef = s47 := hsame 47 (nwB.spec (by kernel_rfl))
  have x48 : a.tmps.getD 48 undef = s48 := hsame 48 (nwB.spec (by kernel_rfl))
  have x49 : a.tmps.getD 49 undef = s49 := hsame 49 (nwB.spec (by kernel_rfl))
  have x50 : a.tmps.getD 50 undef = s50 := hsame 50 (nwB.spec (by kernel_rfl))
  have x51 : a.tmps.getD 51 undef = s51 := hsame 51 (nwB.spec (by kernel_rfl))
  have x52 : a.tmps.getD 52 undef = s52 := hsame 52 (nwB.spec (by kernel_rfl))
  have x53 : a.tmps.getD 53 undef = s53 := hsame 53 (nwB.spec (by kernel_rfl))
  have x54 : a.tmps.getD 54 undef = s54 := hsame 54 (nwB.spec (by kernel_rfl))
  have x55 : a.tmps.getD 55 undef = s55 := hsame 55 (nwB.spec (by kernel_rfl))
  have x56 : a.tmps.getD 56 undef = s56 := hsame 56 (nwB.spec (by kernel_rfl))
  have hl : a.tmps = (s0 :: s1 :: (.pointer (some ⟨b, 0, none⟩) : Value) :: (.pointer (some ⟨b + 1, 0, none⟩) : Value) :: s4 :: (a.tmps.getD 5 undef : Value) :: (a.tmps.getD 6 undef : Value) :: s7 :: s8 :: s9 :: s10 :: s11 :: s12 :: s13 :: s14 :: s15 :: s16 :: s17 :: s18 :: s19 :: (lvV Aa ca la : Value) :: (a.tmps.getD 21 undef : Value) :: (a.tmps.getD 22 undef : Value) :: (lvV Ab cb lb : Value) :: (a.tmps.getD 24 undef : Value) :: (a.tmps.getD 25 undef : Value) :: s26 :: s27 :: s28 :: s29 :: s30 :: s31 :: s32 :: s33 :: s34 :: s35 :: s36 :: s37 :: s38 :: s39 :: s40 :: s41 :: s42 :: s43 :: s44 :: s45 :: s46 :: s47 :: s48 :: s49 :: s50 :: s51 :: s52 :: s53 :: s54 :: s55 :: s56 :: ([] : List Value)).toArray := by
    have h := lit a.tmps 57 hs
    have e : ((List.range 57).map (fun i => a.tmps.getD i undef)).toArray = ((a.tmps.getD 0 undef : Value) :: (a.tmps.getD 1 undef : Value) :: (a.tmps.getD 2 undef : Value) :: (a.tmps.getD 3 undef : Value) :: (a.tmps.getD 4 undef : Value) :: (a.tmps.getD 5 undef : Value) :: (a.tmps.getD 6 undef : Value) :: (a.tmps.getD 7 undef : Value) :: (a.tmps.getD 8 undef : Value) :: (a.tmps.getD 9 undef : Value) :: (a.tmps.getD 10 undef : Value) :: (a.tmps.getD 11 undef : Value) :: (a.tmps.getD 12 undef : Value) :: (a.tmps.getD 13 undef : Value) :: (a.tmps.getD 14 undef : Value) :: (a.tmps.getD 15 undef : Value) :: (a.tmps.getD 16 undef : Value) :: (a.tmps.getD 17 undef : Value) :: (a.tmps.getD 18 undef : Value) :: (a.tmps.getD 19 undef : Value) :: (a.tmps.getD 20 undef : Value) :: (a.tmps.getD 21 undef : Value) :: (a.tmps.getD 22 undef : Value) :: (a.tmps.getD 23 undef : Value) :: (a.tmps.getD 24 undef : Value) :: (a.tmps.getD 25 undef : Value) :: (a.tmps.getD 26 undef : Value) :: (a.tmps.getD 27 undef : Value) :: (a.tmps.getD 28 undef : Value) :: (a.tmps.getD 29 undef : Value) :: (a.tmps.getD 30 undef : Value) :: (a.tmps.getD 31 undef : Value) :: (a.tmps.getD 32 undef : Value) :: (a.tmps.getD 33 undef : Value) :: (a.tmps.getD 34 undef : Value) :: (a.tmps.getD 35 undef : Value) :: (a.tmps.getD 36 undef : Value) :: (a.tmps.getD 37 undef : Value) :: (a.tmps.getD 38 undef : Value) :: (a.tmps.getD 39 undef : Value) :: (a.tmps.getD 40 undef : Value) :: (a.tmps.getD 41 undef : Value) :: (a.tmps.getD 42 undef : Value) :: (a.tmps.getD 43 undef : Value) :: (a.tmps.getD 44 undef : Value) :: (a.tmps.getD 45 undef : Value) :: (a.tmps.getD 46 undef : Value) :: (a.tmps.getD 47 undef : Value) :: (a.tmps.getD 48 undef : Value) :: (a.tmps.getD 49 undef : Value) :: (a.tmps.getD 50 undef : Value) :: (a.tmps.getD 51 undef : Value) :: (a.tmps.getD 52 undef : Value) :: (a.tmps.getD 53 undef : Value) :: (a.tmps.getD 54 undef : Value) :: (a.tmps.getD 55 undef : Value) :: (a.tmps.getD 56 undef : Value) :: ([] : List Value)).toArray := rfl
    rw [e, x0, x1, x2, x3, x4, x7, x8, x9, x10, x11, x12, x13, x14, x15, x16, x17, x18, x19, x20, x23, x26, x27, x28, x29, x30, x31, x32, x33, x34, x35, x36, x37, x38, x39, x40, x41, x42, x43, x44, x45, x46, x47, x48, x49, x50, x51, x52, x53, x54, x55, x56] at h
    exact h
  obtain ⟨tmps, defers⟩ := a
  obtain rfl : defers = [] := hd
  have hl' : tmps = _ := hl
  rw [hl']
  obtain ⟨⟨v8, hv8⟩, ho8⟩ := hf2 8 _ rfl rfl (by decide)
  obtain ⟨⟨v9, hv9⟩, ho9⟩ := hf2 9 _ rfl rfl (by decide)
  have hb' := est2_chg hb
  exact hend w' _ _ _ _ _ _ v8 (O 8) v9 (O 9) ⟨hb'.os, hb'.tape, hb'.output, hb'.size, hb'.block⟩ hv8 ho8 hv9 ho9

end Go.Proofs.Ytjlhbaohippidaa
