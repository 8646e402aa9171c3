/-
  The two regions of of that call it.
-/
import Derived.Test.YtjlhbaohippidaaNfF
namespace Go.Proofs.Ytjlhbaohippidaa
open Go.RowKit Go.Proofs.YtjlhbaohippidaaW.PrintWords Go.RegionInvYtjlhbaohippidaa Go.RegionEYtjlhbaohippidaa
set_option linter.unusedVariables false

def of5_ops : List Oper := [
  { dst := some 15, op := Go.Op.fieldAddr 24 (Go.Operand.tmp 2) 2, type := 0, pos := "level.go:193", after := #[], guard := none },
  { dst := some 16, op := Go.Op.load 22 (Go.Operand.tmp 15), type := 22, pos := "level.go:193", after := #[{ on := 0, ground := Go.Ground.data }], guard := none },
  { dst := some 17, op := Go.Op.indexAddr 22 (Go.Operand.tmp 16) (Go.Operand.const (Go.Value.int Go.IntKind.i64 0)), type := 0, pos := "level.go:193", after := #[{ on := 1, ground := Go.Ground.data }], guard := none },
  { dst := some 18, op := Go.Op.load 24 (Go.Operand.tmp 17), type := 24, pos := "level.go:193", after := #[{ on := 2, ground := Go.Ground.data }], guard := none },
  { dst := some 19, op := Go.Op.move (Go.Operand.tmp 1), type := 59, pos := "level.go:193", after := #[], guard := none },
  { dst := some 20, op := Go.Op.call { callee := Go.Callee.value (Go.Operand.func 34), args := #[Go.Operand.tmp 18, Go.Operand.tmp 19], argTypes := #[24, 59] }, type := 52, pos := "level.go:193", after := #[{ on := 3, ground := Go.Ground.data }, { on := 4, ground := Go.Ground.data }], guard := none },
  { dst := some 21, op := Go.Op.fieldAddr 24 (Go.Operand.tmp 2) 1, type := 0, pos := "level.go:193", after := #[], guard := none },
  { dst := some 22, op := Go.Op.load 3 (Go.Operand.tmp 21), type := 3, pos := "level.go:193", after := #[{ on := 6, ground := Go.Ground.data }], guard := none },
  { dst := some 23, op := Go.Op.call { callee := Go.Callee.value (Go.Operand.func 51), args := #[Go.Operand.tmp 20, Go.Operand.tmp 22], argTypes := #[52, 3] }, type := 52, pos := "level.go:193", after := #[{ on := 5, ground := Go.Ground.data }, { on := 7, ground := Go.Ground.data }, { on := 5, ground := Go.Ground.chain }], guard := none },
  { dst := none, op := Go.Op.store 52 (Go.Operand.tmp 4) (Go.Operand.tmp 23), type := 0, pos := "level.go:193", after := #[{ on := 8, ground := Go.Ground.data }, { on := 8, ground := Go.Ground.chain }, { on := 0, ground := Go.Ground.phase }, { on := 1, ground := Go.Ground.phase }, { on := 2, ground := Go.Ground.phase }, { on := 3, ground := Go.Ground.phase }, { on := 4, ground := Go.Ground.phase }, { on := 5, ground := Go.Ground.phase }, { on := 6, ground := Go.Ground.phase }, { on := 7, ground := Go.Ground.phase }, { on := 8, ground := Go.Ground.phase }], guard := none }]
def of5_F (w0 : World) (b : Nat) (k n : Int) (gb off m c : Nat) (S : Nat → Prop) (Av : Option Addr) (nv cv : Nat) (g0 B0 : Value) (xk0 xn0 : Int) (A0 : Option Addr) (m0 c0 : Nat) (f0 : Nf)  : Nat → (Nat → Value) → Value → World → (Nat → Prop) → Prop := fun rix => match rix with
  | 0 => fun _ v _ _ => v = .pointer (some ⟨b, 2, none⟩)
  | 1 => fun _ v _ _ => v = .slice (some ⟨gb, off, none⟩) m c
  | 2 => fun _ v _ _ => v = .pointer (some ⟨gb, off, none⟩)
  | 3 => fun _ v _ _ => v = .agg #[.int .i64 xk0, .int .i64 xn0, .slice A0 m0 c0]
  | 4 => fun _ v _ _ => v = .slice Av nv cv
  | 5 => fun τ v w O => NfV S f0 v w O
  | 6 => fun _ v _ _ => v = .pointer (some ⟨b, 1, none⟩)
  | 7 => fun _ v _ _ => v = .int .i64 n
  | 8 => fun τ v w O => NfV (fun _ => False) (plusN n f0) v w O
  | 9 => fun τ v w O => NfBox (b + 1) (fun _ => False) (plusN n f0) w O
  | _ => fun _ _ _ _ => True
def of5_C : Nat → List Nat := fun rix => match rix with
  | 9 => [8]
  | _ => []
theorem of5_nw1 : nwB of5_ops.toArray 1 = true := by kernel_rfl
theorem of5_nw2 : nwB of5_ops.toArray 2 = true := by kernel_rfl
theorem of5_nw4 : nwB of5_ops.toArray 4 = true := by kernel_rfl
set_option maxRecDepth 100000 in
set_option maxHeartbeats 8000000 in
theorem of5_obs (w0 : World) (b : Nat) (k n : Int) (gb off m c : Nat) (S : Nat → Prop) (Av : Option Addr) (nv cv : Nat) (g0 B0 : Value) (xk0 xn0 : Int) (A0 : Option Addr) (m0 c0 : Nat) (f0 : Nf)  (hx2 : w0.heap[b]? = some (.cells #[.int .i64 k, .int .i64 n, .slice (some ⟨gb, off, none⟩) m c] 24 (0, 0))) (hx4 : w0.heap[b + 1]? = some (.cells #[g0, B0] 52 (0, 0))) (hgb : gb < b) (hS : ∀ k, S k → k < b) (hc0 : w0.cell? ⟨gb, off, none⟩ = some (.int .i64 xk0)) (hc1 : w0.cell? ⟨gb, off + 1, none⟩ = some (.int .i64 xn0)) (hc2 : w0.cell? ⟨gb, off + 2, none⟩ = some (.slice A0 m0 c0)) (hof0 : ∀ w, (∀ k, k < b → w.heap[k]? = w0.heap[k]?) → w0.heap.size ≤ w.heap.size → Calls Try.prog 34 #[.agg #[.int .i64 xk0, .int .i64 xn0, .slice A0 m0 c0], .slice Av nv cv] w (NfGot w S f0)) (hm : 0 < m) (hn0 : 0 ≤ n) (hn1 : n ≤ 1099511627776) (hf0 : NfOk f0) (Q : Exit → Act → World → Prop) (a0 : Act) (hi1 : a0.tmps.getD 1 undef = .slice Av nv cv) (hi2 : a0.tmps.getD 2 undef = .pointer (some ⟨b, 0, none⟩)) (hi4 : a0.tmps.getD 4 undef = .pointer (some ⟨b + 1, 0, none⟩)) :
    ObsE Try.prog of5_ops.toArray Q (est2 9 0 (fun k => k = b + 1) (fun _ => False)) of5_C (of5_F w0 b k n gb off m c S Av nv cv g0 B0 xk0 xn0 A0 m0 c0 f0 ) a0 w0 of5_ops.toArray.toList 0 := by
  have nw1 := of5_nw1
  have nw2 := of5_nw2
  have nw4 := of5_nw4
  refine ⟨?_, ?_, ?_, ?_, ?_, ?_, ?_, ?_, ?_, ?_, trivial⟩
  · refine ⟨⟨fun τ => stableE_det _, leans_not⟩, ?_⟩
    intro a w O hk
    have e2 : a.eval (.tmp 2) = .pointer (some ⟨b, 0, none⟩) := (hk.init 2 (initialB_of_nw nw2)).trans hi2
    exact obE_run (wanted_none rfl) (by unfold execOp; simp only []; rw [e2]; go_simp) rfl
  · refine ⟨⟨fun τ => stableE_det _, leans_not⟩, ?_⟩
    intro a w O hk
    have e15 : a.eval (.tmp 15) = .pointer (some ⟨b, 2, none⟩) := hk.fact 0 _ 15 rfl rfl rfl rfl
    have x2 := hk.world.still hx2 (fun ⟨_, h⟩ => h.elim (fun h => by have : b = b + 1 := h.2; omega) (fun h => h.2))
    obtain ⟨p0, p1, p2, -, -, -⟩ := row3 x2
    have hfx : ∀ k, k < b → w.heap[k]? = w0.heap[k]? := fun k hkb => hk.fix k (est2_fix (by have := blk_lt hx2; omega) (fun h => by omega) (fun h => h))
    have hcc : ∀ j, w.cell? ⟨gb, j, none⟩ = w0.cell? ⟨gb, j, none⟩ := fun j => cell_same (hfx _ hgb)
    have q0 := (hcc _).trans hc0
    have q1 := (hcc _).trans hc1
    have q2 := (hcc _).trans hc2
    exact obE_run (wanted_none rfl) (by unfold execOp; simp only []; rw [e15]; go_simp) rfl
  · refine ⟨⟨fun τ => stableE_det _, leans_not⟩, ?_⟩
    intro a w O hk
    have e16 : a.eval (.tmp 16) = .slice (some ⟨gb, off, none⟩) m c := hk.fact 1 _ 16 rfl rfl rfl rfl
    have x2 := hk.world.still hx2 (fun ⟨_, h⟩ => h.elim (fun h => by have : b = b + 1 := h.2; omega) (fun h => h.2))
    obtain ⟨p0, p1, p2, -, -, -⟩ := row3 x2
    have hfx : ∀ k, k < b → w.heap[k]? = w0.heap[k]? := fun k hkb => hk.fix k (est2_fix (by have := blk_lt hx2; omega) (fun h => by omega) (fun h => h))
    have hcc : ∀ j, w.cell? ⟨gb, j, none⟩ = w0.cell? ⟨gb, j, none⟩ := fun j => cell_same (hfx _ hgb)
    have q0 := (hcc _).trans hc0
    have q1 := (hcc _).trans hc1
    have q2 := (hcc _).trans hc2
    exact obE_run (wanted_none rfl) (by unfold execOp; simp only []; rw [e16]; go_simp) rfl
  · refine ⟨⟨fun τ => stableE_det _, leans_not⟩, ?_⟩
    intro a w O hk
    have e17 : a.eval (.tmp 17) = .pointer (some ⟨gb, off, none⟩) := hk.fact 2 _ 17 rfl rfl rfl rfl
    have x2 := hk.world.still hx2 (fun ⟨_, h⟩ => h.elim (fun h => by have : b = b + 1 := h.2; omega) (fun h => h.2))
    obtain ⟨p0, p1, p2, -, -, -⟩ := row3 x2
    have hfx : ∀ k, k < b → w.heap[k]? = w0.heap[k]? := fun k hkb => hk.fix k (est2_fix (by have := blk_lt hx2; omega) (fun h => by omega) (fun h => h))
    have hcc : ∀ j, w.cell? ⟨gb, j, none⟩ = w0.cell? ⟨gb, j, none⟩ := fun j => cell_same (hfx _ hgb)
    have q0 := (hcc _).trans hc0
    have q1 := (hcc _).trans hc1
    have q2 := (hcc _).trans hc2
    exact obE_run (wanted_none rfl) (by unfold execOp; simp only []; rw [e17]; go_simp) rfl
  · refine ⟨⟨fun τ => stableE_det _, leans_not⟩, ?_⟩
    intro a w O hk
    have e1 : a.eval (.tmp 1) = .slice Av nv cv := (hk.init 1 (initialB_of_nw nw1)).trans hi1
    exact toE (ob_move rfl e1 (wanted_none rfl) rfl)
  · refine ⟨⟨fun τ => stableE_nf (fun k hk' => est2_fix (by have := blk_lt hx2; have := hS k hk'; omega) (fun h => by have := hS k hk'; omega) (fun h => h)), leans_not⟩, ?_⟩
    intro a w O hk
    have e18 : a.eval (.tmp 18) = .agg #[.int .i64 xk0, .int .i64 xn0, .slice A0 m0 c0] := hk.fact 3 _ 18 rfl rfl rfl rfl
    have e19 : a.eval (.tmp 19) = .slice Av nv cv := hk.fact 4 _ 19 rfl rfl rfl rfl
    have x2 := hk.world.still hx2 (fun ⟨_, h⟩ => h.elim (fun h => by have : b = b + 1 := h.2; omega) (fun h => h.2))
    obtain ⟨p0, p1, p2, -, -, -⟩ := row3 x2
    have hfx : ∀ k, k < b → w.heap[k]? = w0.heap[k]? := fun k hkb => hk.fix k (est2_fix (by have := blk_lt hx2; omega) (fun h => by omega) (fun h => h))
    have hcc : ∀ j, w.cell? ⟨gb, j, none⟩ = w0.cell? ⟨gb, j, none⟩ := fun j => cell_same (hfx _ hgb)
    have q0 := (hcc _).trans hc0
    have q1 := (hcc _).trans hc1
    have q2 := (hcc _).trans hc2
    refine obE_callNew #[.agg #[.int .i64 xk0, .int .i64 xn0, .slice A0 m0 c0], .slice Av nv cv] rfl rfl rfl rfl (by simp only [List.map_cons, List.map_nil]; rw [e18, e19]) (wanted_none rfl) ((hof0 w hfx hk.world.size).mono ?_)
    intro e w' h
    exact NfV.of_got h
  · refine ⟨⟨fun τ => stableE_det _, leans_not⟩, ?_⟩
    intro a w O hk
    have e2 : a.eval (.tmp 2) = .pointer (some ⟨b, 0, none⟩) := (hk.init 2 (initialB_of_nw nw2)).trans hi2
    exact obE_run (wanted_none rfl) (by unfold execOp; simp only []; rw [e2]; go_simp) rfl
  · refine ⟨⟨fun τ => stableE_det _, leans_not⟩, ?_⟩
    intro a w O hk
    have e21 : a.eval (.tmp 21) = .pointer (some ⟨b, 1, none⟩) := hk.fact 6 _ 21 rfl rfl rfl rfl
    have x2 := hk.world.still hx2 (fun ⟨_, h⟩ => h.elim (fun h => by have : b = b + 1 := h.2; omega) (fun h => h.2))
    obtain ⟨p0, p1, p2, -, -, -⟩ := row3 x2
    have hfx : ∀ k, k < b → w.heap[k]? = w0.heap[k]? := fun k hkb => hk.fix k (est2_fix (by have := blk_lt hx2; omega) (fun h => by omega) (fun h => h))
    have hcc : ∀ j, w.cell? ⟨gb, j, none⟩ = w0.cell? ⟨gb, j, none⟩ := fun j => cell_same (hfx _ hgb)
    have q0 := (hcc _).trans hc0
    have q1 := (hcc _).trans hc1
    have q2 := (hcc _).trans hc2
    exact obE_run (wanted_none rfl) (by unfold execOp; simp only []; rw [e21]; go_simp) rfl
  · refine ⟨⟨fun τ => stableE_nf (fun k hk' => hk'.elim), leans_not⟩, ?_⟩
    intro a w O hk
    have f20 := hk.fact 5 _ 20 rfl rfl rfl rfl
    have g20 := hk.owns 5 rfl rfl
    have e22 : a.eval (.tmp 22) = .int .i64 n := hk.fact 7 _ 22 rfl rfl rfl rfl
    have x2 := hk.world.still hx2 (fun ⟨_, h⟩ => h.elim (fun h => by have : b = b + 1 := h.2; omega) (fun h => h.2))
    obtain ⟨p0, p1, p2, -, -, -⟩ := row3 x2
    have hfx : ∀ k, k < b → w.heap[k]? = w0.heap[k]? := fun k hkb => hk.fix k (est2_fix (by have := blk_lt hx2; omega) (fun h => by omega) (fun h => h))
    have hcc : ∀ j, w.cell? ⟨gb, j, none⟩ = w0.cell? ⟨gb, j, none⟩ := fun j => cell_same (hfx _ hgb)
    have q0 := (hcc _).trans hc0
    have q1 := (hcc _).trans hc1
    have q2 := (hcc _).trans hc2
    obtain ⟨A, n', cap, e20, h1, h2⟩ := f20
    have hln := h2.1.1
    have hok := hf0
    refine obE_callNew #[.agg #[.int .i64 f0.1, .slice A n' cap], .int .i64 n] rfl rfl rfl rfl (by simp only [List.map_cons, List.map_nil]; rw [e22, show a.eval (.tmp 20) = _ from e20]) (wanted_none rfl) ((plusN_calls A n' cap f0.1 n f0.2 w h2.1 hok.1 hok.2.1 hn0 hn1 hok.2.2.1 (by have := hok.2.2.2; omega)).mono ?_)
    intro e w' h
    exact NfV.of_got h
  · refine ⟨⟨fun τ => stableE_nfbox (fun k hk' => hk'.elim), leans_not⟩, ?_⟩
    intro a w O hk
    have e4 : a.eval (.tmp 4) = .pointer (some ⟨b + 1, 0, none⟩) := (hk.init 4 (initialB_of_nw nw4)).trans hi4
    have f23 := hk.fact 8 _ 23 rfl rfl rfl rfl
    have g23 := hk.owns 8 rfl rfl
    have x2 := hk.world.still hx2 (fun ⟨_, h⟩ => h.elim (fun h => by have : b = b + 1 := h.2; omega) (fun h => h.2))
    obtain ⟨p0, p1, p2, -, -, -⟩ := row3 x2
    have hfx : ∀ k, k < b → w.heap[k]? = w0.heap[k]? := fun k hkb => hk.fix k (est2_fix (by have := blk_lt hx2; omega) (fun h => by omega) (fun h => h))
    have hcc : ∀ j, w.cell? ⟨gb, j, none⟩ = w0.cell? ⟨gb, j, none⟩ := fun j => cell_same (hfx _ hgb)
    have q0 := (hcc _).trans hc0
    have q1 := (hcc _).trans hc1
    have q2 := (hcc _).trans hc2
    have x4 := (hk.est 9 _ rfl (.inl rfl) (b + 1) (.inl ⟨rfl, rfl⟩)).trans hx4
    obtain ⟨z0, z1, y0, y1⟩ := row2 x4
    obtain ⟨A, n', cap, e23, h1, h2⟩ := f23
    refine obE_store (w' := (w.setCell ⟨b + 1, 0, none⟩ (.int .i64 (plusN n f0).1)).setCell ⟨b + 1, 1, none⟩ (.slice A n' cap)) (fun k => k = b + 1 ∨ O 8 k) (wanted_none rfl) (by unfold execOp; simp only []; rw [e4, show a.eval (.tmp 23) = _ from e23]; go_simp) ((chg_set2 w (b + 1) _ _).mono fun k h => .inr (.inl ⟨rfl, h⟩)) ?_ (fun k h => .inl ?_)
    · exact ⟨A, n', cap, set2 x4, .inl rfl, h1, (h2.same fun k hk' hz => (chg_set2 w (b + 1) _ _).block k hz (fun h => hk'.elim id fun h' => hk.away 9 8 _ rfl (.inl rfl) rfl rfl (b + 1) (.inl ⟨rfl, rfl⟩) (h ▸ h'))).mono fun k hk' _ => .inr (hk'.elim False.elim fun h' => ⟨.inr h', fun h => hk.away 9 8 _ rfl (.inl rfl) rfl rfl (b + 1) (.inl ⟨rfl, rfl⟩) (h ▸ h')⟩)⟩
    · exact h.elim (fun h => .inr (.inl ⟨rfl, h⟩)) fun h => .inl ⟨8, by simp [of5_C], h⟩
set_option maxRecDepth 100000 in
set_option maxHeartbeats 8000000 in
theorem of5_region {Q : Exit → Act → World → Prop} {id : Nat} (w0 : World) (b : Nat) (k n : Int) (gb off m c : Nat) (S : Nat → Prop) (Av : Option Addr) (nv cv : Nat) (g0 B0 : Value) (xk0 xn0 : Int) (A0 : Option Addr) (m0 c0 : Nat) (f0 : Nf)  {s0 s3 s5 s6 s7 s8 s9 s10 s11 s12 s13 s14 s15 s16 s17 s18 s19 s20 s21 s22 s23 s24 s25 s26 s27 s28 s29 s30 s31 s32 s33 s34 s35 s36 s37 s38 s39 s40 s41 s42 s43 s44 s45 s46 s47 s48 s49 s50 s51 s52 s53 s54 s55 s56 s57 s58 s59 : Value} (hx2 : w0.heap[b]? = some (.cells #[.int .i64 k, .int .i64 n, .slice (some ⟨gb, off, none⟩) m c] 24 (0, 0))) (hx4 : w0.heap[b + 1]? = some (.cells #[g0, B0] 52 (0, 0))) (hgb : gb < b) (hS : ∀ k, S k → k < b) (hc0 : w0.cell? ⟨gb, off, none⟩ = some (.int .i64 xk0)) (hc1 : w0.cell? ⟨gb, off + 1, none⟩ = some (.int .i64 xn0)) (hc2 : w0.cell? ⟨gb, off + 2, none⟩ = some (.slice A0 m0 c0)) (hof0 : ∀ w, (∀ k, k < b → w.heap[k]? = w0.heap[k]?) → w0.heap.size ≤ w.heap.size → Calls Try.prog 34 #[.agg #[.int .i64 xk0, .int .i64 xn0, .slice A0 m0 c0], .slice Av nv cv] w (NfGot w S f0)) (hm : 0 < m) (hn0 : 0 ≤ n) (hn1 : n ≤ 1099511627776) (hf0 : NfOk f0)
    (hend : ∀ (w' : World) (u20 : Value) (u23 : Value) (O5 : Nat → Prop) (v9 : Value) (O9 : Nat → Prop), Chg (fun k => (fun k => k = b + 1) k ∨ (fun _ => False) k) w0 w' → (NfV S f0 u20 w' O5) → (∀ k, O5 k → k < w'.heap.size ∧ ¬ Fix w0 (est2 9 0 (fun k => k = b + 1) (fun _ => False)) k) → (NfBox (b + 1) (fun _ => False) (plusN n f0) w' O9) → (∀ k, O9 k → k < w'.heap.size ∧ ¬ Fix w0 (est2 9 0 (fun k => k = b + 1) (fun _ => False)) k) → Q .normal { tmps := (s0 :: (.slice Av nv cv : Value) :: (.pointer (some ⟨b, 0, none⟩) : Value) :: s3 :: (.pointer (some ⟨b + 1, 0, none⟩) : Value) :: s5 :: s6 :: s7 :: s8 :: s9 :: s10 :: s11 :: s12 :: s13 :: s14 :: (.pointer (some ⟨b, 2, none⟩) : Value) :: (.slice (some ⟨gb, off, none⟩) m c : Value) :: (.pointer (some ⟨gb, off, none⟩) : Value) :: (.agg #[.int .i64 xk0, .int .i64 xn0, .slice A0 m0 c0] : Value) :: (.slice Av nv cv : Value) :: u20 :: (.pointer (some ⟨b, 1, none⟩) : Value) :: (.int .i64 n : Value) :: u23 :: s24 :: s25 :: s26 :: s27 :: s28 :: s29 :: s30 :: s31 :: s32 :: s33 :: s34 :: s35 :: s36 :: s37 :: s38 :: s39 :: s40 :: s41 :: s42 :: s43 :: s44 :: s45 :: s46 :: s47 :: s48 :: s49 :: s50 :: s51 :: s52 :: s53 :: s54 :: s55 :: s56 :: s57 :: s58 :: s59 :: ([] : List Value)).toArray, defers := [] } w') :
    (Code.region id of5_ops.toArray true).wp Try.prog Q { tmps := (s0 :: (.slice Av nv cv : Value) :: (.pointer (some ⟨b, 0, none⟩) : Value) :: s3 :: (.pointer (some ⟨b + 1, 0, none⟩) : Value) :: s5 :: s6 :: s7 :: s8 :: s9 :: s10 :: s11 :: s12 :: s13 :: s14 :: s15 :: s16 :: s17 :: s18 :: s19 :: s20 :: s21 :: s22 :: s23 :: s24 :: s25 :: s26 :: s27 :: s28 :: s29 :: s30 :: s31 :: s32 :: s33 :: s34 :: s35 :: s36 :: s37 :: s38 :: s39 :: s40 :: s41 :: s42 :: s43 :: s44 :: s45 :: s46 :: s47 :: s48 :: s49 :: s50 :: s51 :: s52 :: s53 :: s54 :: s55 :: s56 :: s57 :: s58 :: s59 :: ([] : List Value)).toArray, defers := [] } w0 := by
  refine wp_region_est (by kernel_rfl) (est2 9 0 (fun k => k = b + 1) (fun _ => False)) of5_C (of5_F w0 b k n gb off m c S Av nv cv g0 B0 xk0 xn0 A0 m0 c0 f0 ) (est2_dis (fun k h1 h2 => h2)) (est2_range (fun k h => by have := blk_lt hx4; omega) (fun k h => h.elim)) (by rfl) (by kernel_rfl) (of5_obs w0.drew b k n gb off m c S Av nv cv g0 B0 xk0 xn0 A0 m0 c0 f0  hx2 hx4 hgb hS hc0 hc1 hc2 hof0 hm hn0 hn1 hf0 _ _ rfl rfl rfl) ?_
  intro a w' O hd hs hb hf hf2 ha hsame
  have x0 : a.tmps.getD 0 undef = s0 := hsame 0 (nwB.spec (by kernel_rfl))
  have x1 : a.tmps.getD 1 undef = .slice Av nv cv := hsame 1 (nwB.spec (by kernel_rfl))
  have x2 : a.tmps.getD 2 undef = .pointer (some ⟨b, 0, none⟩) := hsame 2 (nwB.spec (by kernel_rfl))
  have x3 : a.tmps.getD 3 undef = s3 := hsame 3 (nwB.spec (by kernel_rfl))
  have x4 : a.tmps.getD 4 undef = .pointer (some ⟨b + 1, 0, none⟩) := hsame 4 (nwB.spec (by kernel_rfl))
  have x5 : a.tmps.getD 5 undef = s5 := hsame 5 (nwB.spec (by kernel_rfl))
  have x6 : a.tmps.getD 6 undef = s6 := hsame 6 (nwB.spec (by kernel_rfl))
  have x7 : a.tmps.getD 7 undef = s7 := hsame 7 (nwB.spec (by kernel_rfl))
  have x8 : a.tmps.getD 8 undef = s8 := hsame 8 (nwB.spec (by kernel_rfl))
  have x9 : a.tmps.getD 9 undef = s9 := hsame 9 (nwB.spec (by kernel_rfl))
  have x10 : a.tmps.getD 10 undef = s10 := hsame 10 (nwB.spec (by kernel_rfl))
  have x11 : a.tmps.getD 11 undef = s11 := hsame 11 (nwB.spec (by kernel_rfl))
  have x12 : a.tmps.getD 12 undef = s12 := hsame 12 (nwB.spec (by kernel_rfl))
  have x13 : a.tmps.getD 13 undef = s13 := hsame 13 (nwB.spec (by kernel_rfl))
  have x14 : a.tmps.getD 14 undef = s14 := hsame 14 (nwB.spec (by kernel_rfl))
  have x15 : a.tmps.getD 15 undef = .pointer (some ⟨b, 2, none⟩) := (hf 0 _ 15 rfl rfl (by decide)).1
  have x16 : a.tmps.getD 16 undef = .slice (some ⟨gb, off, none⟩) m c := (hf 1 _ 16 rfl rfl (by decide)).1
  have x17 : a.tmps.getD 17 undef = .pointer (some ⟨gb, off, none⟩) := (hf 2 _ 17 rfl rfl (by decide)).1
  have x18 : a.tmps.getD 18 undef = .agg #[.int .i64 xk0, .int .i64 xn0, .slice A0 m0 c0] := (hf 3 _ 18 rfl rfl (by decide)).1
  have x19 : a.tmps.getD 19 undef = .slice Av nv cv := (hf 4 _ 19 rfl rfl (by decide)).1
  have x21 : a.tmps.getD 21 undef = .pointer (some ⟨b, 1, none⟩) := (hf 6 _ 21 rfl rfl (by decide)).1
  have x22 : a.tmps.getD 22 undef = .int .i64 n := (hf 7 _ 22 rfl rfl (by decide)).1
  have x24 : a.tmps.getD 24 undef = s24 := hsame 24 (nwB.spec (by kernel_rfl))
  have x25 : a.tmps.getD 25 undef = s25 := hsame 25 (nwB.spec (by kernel_rfl))
  have x26 : a.tmps.getD 26 undef = s26 := hsame 26 (nwB.spec (by kernel_rfl))
  have x27 : a.tmps.getD 27 undef = s27 := hsame 27 (nwB.spec (by kernel_rfl))
  have x28 : a.tmps.getD 28 undef = s28 := hsame 28 (nwB.spec (by kernel_rfl))
  have x29 : a.tmps.getD 29 undef = s29 := hsame 29 (nwB.spec (by kernel_rfl))
  have x30 : a.tmps.getD 30 undef = s30 := hsame 30 (nwB.spec (by kernel_rfl))
  have x31 : a.tmps.getD 31 undef = s31 := hsame 31 (nwB.spec (by kernel_rfl))
  have x32 : a.tmps.getD 32 undef = s32 := hsame 32 (nwB.spec (by kernel_rfl))
  have x33 : a.tmps.getD 33 undef = s33 := hsame 33 (nwB.spec (by kernel_rfl))
  have x34 : a.tmps.getD 34 undef = s34 := hsame 34 (nwB.spec (by kernel_rfl))
  have x35 : a.tmps.getD 35 undef = s35 := hsame 35 (nwB.spec (by kernel_rfl))
  have x36 : a.tmps.getD 36 undef = s36 := hsame 36 (nwB.spec (by kernel_rfl))
  have x37 : a.tmps.getD 37 undef = s37 := hsame 37 (nwB.spec (by kernel_rfl))
  have x38 : a.tmps.getD 38 undef = s38 := hsame 38 (nwB.spec (by kernel_rfl))
  have x39 : a.tmps.getD 39 undef = s39 := hsame 39 (nwB.spec (by kernel_rfl))
  have x40 : a.tmps.getD 40 undef = s40 := hsame 40 (nwB.spec (by kernel_rfl))
  have x41 : a.tmps.getD 41 undef = s41 := hsame 41 (nwB.spec (by kernel_rfl))
  have x42 : a.tmps.getD 42 undef = s42 := hsame 42 (nwB.spec (by kernel_rfl))
  have x43 : a.tmps.getD 43 undef = s43 := hsame 43 (nwB.spec (by kernel_rfl))
  have x44 : a.tmps.getD 44 undef = s44 := hsame 44 (nwB.spec (by kernel_rfl))
  have x45 : a.tmps.getD 45 undef = s45 := hsame 45 (nwB.spec (by kernel_rfl))
  have x46 : a.tmps.getD 46 undef = s46 := hsame 46 (nwB.spec (by kernel_rfl))
  have x47 : a.tmps.getD 47 undef = s47 := hsame 47 (nwB.spec (by kernel_rfl))
  have x48 : a.tmps.getD 48 undef = s48 := hsame 48 (nwB.spec (by kernel_rfl))
  have x49 : a.tmps.getD 49 undef = s49 := hsame 49 (nwB.spec (by kernel_rfl))
  have x50 : a.tmps.getD 50 undef = s50 := hsame 50 (nwB.spec (by kernel_rfl))
  have x51 : a.tmps.getD 51 undef = s51 := hsame 51 (nwB.spec (by kernel_rfl))
  have x52 : a.tmps.getD 52 undef = s52 := hsame 52 (nwB.spec (by kernel_rfl))
  have x53 : a.tmps.getD 53 undef = s53 := hsame 53 (nwB.spec (by kernel_rfl))
  have x54 : a.tmps.getD 54 undef = s54 := hsame 54 (nwB.spec (by kernel_rfl))
  have x55 : a.tmps.getD 55 undef = s55 := hsame 55 (nwB.spec (by kernel_rfl))
  have x56 : a.tmps.getD 56 undef = s56 := hsame 56 (nwB.spec (by kernel_rfl))
  have x57 : a.tmps.getD 57 undef = s57 := hsame 57 (nwB.spec (by kernel_rfl))
  have x58 : a.tmps.getD 58 undef = s58 := hsame 58 (nwB.spec (by kernel_rfl))
  have x59 : a.tmps.getD 59 undef = s59 := hsame 59 (nwB.spec (by kernel_rfl))
  have hl : a.tmps = (s0 :: (.slice Av nv cv : Value) :: (.pointer (some ⟨b, 0, none⟩) : Value) :: s3 :: (.pointer (some ⟨b + 1, 0, none⟩) : Value) :: s5 :: s6 :: s7 :: s8 :: s9 :: s10 :: s11 :: s12 :: s13 :: s14 :: (.pointer (some ⟨b, 2, none⟩) : Value) :: (.slice (some ⟨gb, off, none⟩) m c : Value) :: (.pointer (some ⟨gb, off, none⟩) : Value) :: (.agg #[.int .i64 xk0, .int .i64 xn0, .slice A0 m0 c0] : Value) :: (.slice Av nv cv : Value) :: (a.tmps.getD 20 undef : Value) :: (.pointer (some ⟨b, 1, none⟩) : Value) :: (.int .i64 n : Value) :: (a.tmps.getD 23 undef : Value) :: s24 :: s25 :: s26 :: s27 :: s28 :: s29 :: s30 :: s31 :: s32 :: s33 :: s34 :: s35 :: s36 :: s37 :: s38 :: s39 :: s40 :: s41 :: s42 :: s43 :: s44 :: s45 :: s46 :: s47 :: s48 :: s49 :: s50 :: s51 :: s52 :: s53 :: s54 :: s55 :: s56 :: s57 :: s58 :: s59 :: ([] : List Value)).toArray := by
    have h := lit a.tmps 60 hs
    have e : ((List.range 60).map (fun i => a.tmps.getD i undef)).toArray = ((a.tmps.getD 0 undef : Value) :: (a.tmps.getD 1 undef : Value) :: (a.tmps.getD 2 undef : Value) :: (a.tmps.getD 3 undef : Value) :: (a.tmps.getD 4 undef : Value) :: (a.tmps.getD 5 undef : Value) :: (a.tmps.getD 6 undef : Value) :: (a.tmps.getD 7 undef : Value) :: (a.tmps.getD 8 undef : Value) :: (a.tmps.getD 9 undef : Value) :: (a.tmps.getD 10 undef : Value) :: (a.tmps.getD 11 undef : Value) :: (a.tmps.getD 12 undef : Value) :: (a.tmps.getD 13 undef : Value) :: (a.tmps.getD 14 undef : Value) :: (a.tmps.getD 15 undef : Value) :: (a.tmps.getD 16 undef : Value) :: (a.tmps.getD 17 undef : Value) :: (a.tmps.getD 18 undef : Value) :: (a.tmps.getD 19 undef : Value) :: (a.tmps.getD 20 undef : Value) :: (a.tmps.getD 21 undef : Value) :: (a.tmps.getD 22 undef : Value) :: (a.tmps.getD 23 undef : Value) :: (a.tmps.getD 24 undef : Value) :: (a.tmps.getD 25 undef : Value) :: (a.tmps.getD 26 undef : Value) :: (a.tmps.getD 27 undef : Value) :: (a.tmps.getD 28 undef : Value) :: (a.tmps.getD 29 undef : Value) :: (a.tmps.getD 30 undef : Value) :: (a.tmps.getD 31 undef : Value) :: (a.tmps.getD 32 undef : Value) :: (a.tmps.getD 33 undef : Value) :: (a.tmps.getD 34 undef : Value) :: (a.tmps.getD 35 undef : Value) :: (a.tmps.getD 36 undef : Value) :: (a.tmps.getD 37 undef : Value) :: (a.tmps.getD 38 undef : Value) :: (a.tmps.getD 39 undef : Value) :: (a.tmps.getD 40 undef : Value) :: (a.tmps.getD 41 undef : Value) :: (a.tmps.getD 42 undef : Value) :: (a.tmps.getD 43 undef : Value) :: (a.tmps.getD 44 undef : Value) :: (a.tmps.getD 45 undef : Value) :: (a.tmps.getD 46 undef : Value) :: (a.tmps.getD 47 undef : Value) :: (a.tmps.getD 48 undef : Value) :: (a.tmps.getD 49 undef : Value) :: (a.tmps.getD 50 undef : Value) :: (a.tmps.getD 51 undef : Value) :: (a.tmps.getD 52 undef : Value) :: (a.tmps.getD 53 undef : Value) :: (a.tmps.getD 54 undef : Value) :: (a.tmps.getD 55 undef : Value) :: (a.tmps.getD 56 undef : Value) :: (a.tmps.getD 57 undef : Value) :: (a.tmps.getD 58 undef : Value) :: (a.tmps.getD 59 undef : Value) :: ([] : List Value)).toArray := rfl
    rw [e, x0, x1, x2, x3, x4, x5, x6, x7, x8, x9, x10, x11, x12, x13, x14, x15, x16, x17, x18, x19, x21, x22, x24, x25, x26, x27, x28, x29, x30, x31, x32, x33, x34, x35, x36, x37, x38, x39, x40, x41, x42, x43, x44, x45, x46, x47, x48, x49, x50, x51, x52, x53, x54, x55, x56, x57, x58, x59] at h
    exact h
  obtain ⟨tmps, defers⟩ := a
  obtain rfl : defers = [] := hd
  have hl' : tmps = _ := hl
  rw [hl']
  obtain ⟨⟨v9, hv9⟩, ho9⟩ := hf2 9 _ rfl rfl (by decide)
  have hb' := est2_chg hb
  exact hend w' _ _ (O 5) v9 (O 9) ⟨hb'.os, hb'.tape, hb'.output, hb'.size, hb'.block⟩ (hf 5 _ 20 rfl rfl (by decide)).1 (hf 5 _ 20 rfl rfl (by decide)).2 hv9 ho9

def of7_ops : List Oper := [
  { dst := some 26, op := Go.Op.fieldAddr 24 (Go.Operand.tmp 2) 2, type := 0, pos := "level.go:195", after := #[], guard := none },
  { dst := some 27, op := Go.Op.load 22 (Go.Operand.tmp 26), type := 22, pos := "level.go:195", after := #[{ on := 0, ground := Go.Ground.data }], guard := none },
  { dst := some 28, op := Go.Op.indexAddr 22 (Go.Operand.tmp 27) (Go.Operand.const (Go.Value.int Go.IntKind.i64 0)), type := 0, pos := "level.go:195", after := #[{ on := 1, ground := Go.Ground.data }], guard := none },
  { dst := some 29, op := Go.Op.load 24 (Go.Operand.tmp 28), type := 24, pos := "level.go:195", after := #[{ on := 2, ground := Go.Ground.data }], guard := none },
  { dst := some 30, op := Go.Op.move (Go.Operand.tmp 1), type := 59, pos := "level.go:195", after := #[], guard := none },
  { dst := some 31, op := Go.Op.call { callee := Go.Callee.value (Go.Operand.func 34), args := #[Go.Operand.tmp 29, Go.Operand.tmp 30], argTypes := #[24, 59] }, type := 52, pos := "level.go:195", after := #[{ on := 3, ground := Go.Ground.data }, { on := 4, ground := Go.Ground.data }], guard := none },
  { dst := some 32, op := Go.Op.fieldAddr 24 (Go.Operand.tmp 2) 2, type := 0, pos := "level.go:195", after := #[], guard := none },
  { dst := some 33, op := Go.Op.load 22 (Go.Operand.tmp 32), type := 22, pos := "level.go:195", after := #[{ on := 6, ground := Go.Ground.data }], guard := none },
  { dst := some 34, op := Go.Op.indexAddr 22 (Go.Operand.tmp 33) (Go.Operand.const (Go.Value.int Go.IntKind.i64 1)), type := 0, pos := "level.go:195", after := #[{ on := 7, ground := Go.Ground.data }], guard := none },
  { dst := some 35, op := Go.Op.load 24 (Go.Operand.tmp 34), type := 24, pos := "level.go:195", after := #[{ on := 8, ground := Go.Ground.data }], guard := none },
  { dst := some 36, op := Go.Op.move (Go.Operand.tmp 1), type := 59, pos := "level.go:195", after := #[], guard := none },
  { dst := some 37, op := Go.Op.call { callee := Go.Callee.value (Go.Operand.func 34), args := #[Go.Operand.tmp 35, Go.Operand.tmp 36], argTypes := #[24, 59] }, type := 52, pos := "level.go:195", after := #[{ on := 9, ground := Go.Ground.data }, { on := 10, ground := Go.Ground.data }, { on := 5, ground := Go.Ground.chain }], guard := none },
  { dst := some 38, op := Go.Op.call { callee := Go.Callee.value (Go.Operand.func 52), args := #[Go.Operand.tmp 31, Go.Operand.tmp 37], argTypes := #[52, 52] }, type := 52, pos := "level.go:195", after := #[{ on := 5, ground := Go.Ground.data }, { on := 11, ground := Go.Ground.data }, { on := 11, ground := Go.Ground.chain }], guard := none },
  { dst := none, op := Go.Op.store 52 (Go.Operand.tmp 4) (Go.Operand.tmp 38), type := 0, pos := "level.go:195", after := #[{ on := 12, ground := Go.Ground.data }, { on := 12, ground := Go.Ground.chain }, { on := 0, ground := Go.Ground.phase }, { on := 1, ground := Go.Ground.phase }, { on := 2, ground := Go.Ground.phase }, { on := 3, ground := Go.Ground.phase }, { on := 4, ground := Go.Ground.phase }, { on := 5, ground := Go.Ground.phase }, { on := 6, ground := Go.Ground.phase }, { on := 7, ground := Go.Ground.phase }, { on := 8, ground := Go.Ground.phase }, { on := 9, ground := Go.Ground.phase }, { on := 10, ground := Go.Ground.phase }, { on := 11, ground := Go.Ground.phase }, { on := 12, ground := Go.Ground.phase }], guard := none }]
def of7_F (w0 : World) (b : Nat) (k n : Int) (gb off c : Nat) (S : Nat → Prop) (Av : Option Addr) (nv cv : Nat) (g0 B0 : Value) (xk0 xn0 : Int) (A0 : Option Addr) (m0 c0 : Nat) (f0 : Nf) (xk1 xn1 : Int) (A1 : Option Addr) (m1 c1 : Nat) (f1 : Nf)  : Nat → (Nat → Value) → Value → World → (Nat → Prop) → Prop := fun rix => match rix with
  | 0 => fun _ v _ _ => v = .pointer (some ⟨b, 2, none⟩)
  | 1 => fun _ v _ _ => v = .slice (some ⟨gb, off, none⟩) 2 c
  | 2 => fun _ v _ _ => v = .pointer (some ⟨gb, off, none⟩)
  | 3 => fun _ v _ _ => v = .agg #[.int .i64 xk0, .int .i64 xn0, .slice A0 m0 c0]
  | 4 => fun _ v _ _ => v = .slice Av nv cv
  | 5 => fun τ v w O => NfV S f0 v w O
  | 6 => fun _ v _ _ => v = .pointer (some ⟨b, 2, none⟩)
  | 7 => fun _ v _ _ => v = .slice (some ⟨gb, off, none⟩) 2 c
  | 8 => fun _ v _ _ => v = .pointer (some ⟨gb, off + 3, none⟩)
  | 9 => fun _ v _ _ => v = .agg #[.int .i64 xk1, .int .i64 xn1, .slice A1 m1 c1]
  | 10 => fun _ v _ _ => v = .slice Av nv cv
  | 11 => fun τ v w O => NfV S f1 v w O
  | 12 => fun τ v w O => NfV (fun _ => False) (orN f0 f1) v w O
  | 13 => fun τ v w O => NfBox (b + 1) (fun _ => False) (orN f0 f1) w O
  | _ => fun _ _ _ _ => True
def of7_C : Nat → List Nat := fun rix => match rix with
  | 13 => [12]
  | _ => []
theorem of7_nw1 : nwB of7_ops.toArray 1 = true := by kernel_rfl
theorem of7_nw2 : nwB of7_ops.toArray 2 = true := by kernel_rfl
theorem of7_nw4 : nwB of7_ops.toArray 4 = true := by kernel_rfl
set_option maxRecDepth 100000 in
set_option maxHeartbeats 8000000 in
theorem of7_obs (w0 : World) (b : Nat) (k n : Int) (gb off c : Nat) (S : Nat → Prop) (Av : Option Addr) (nv cv : Nat) (g0 B0 : Value) (xk0 xn0 : Int) (A0 : Option Addr) (m0 c0 : Nat) (f0 : Nf) (xk1 xn1 : Int) (A1 : Option Addr) (m1 c1 : Nat) (f1 : Nf)  (hx2 : w0.heap[b]? = some (.cells #[.int .i64 k, .int .i64 n, .slice (some ⟨gb, off, none⟩) 2 c] 24 (0, 0))) (hx4 : w0.heap[b + 1]? = some (.cells #[g0, B0] 52 (0, 0))) (hgb : gb < b) (hS : ∀ k, S k → k < b) (hc0 : w0.cell? ⟨gb, off, none⟩ = some (.int .i64 xk0)) (hc1 : w0.cell? ⟨gb, off + 1, none⟩ = some (.int .i64 xn0)) (hc2 : w0.cell? ⟨gb, off + 2, none⟩ = some (.slice A0 m0 c0)) (hc3 : w0.cell? ⟨gb, off + 3, none⟩ = some (.int .i64 xk1)) (hc4 : w0.cell? ⟨gb, off + 4, none⟩ = some (.int .i64 xn1)) (hc5 : w0.cell? ⟨gb, off + 5, none⟩ = some (.slice A1 m1 c1)) (hof0 : ∀ w, (∀ k, k < b → w.heap[k]? = w0.heap[k]?) → w0.heap.size ≤ w.heap.size → Calls Try.prog 34 #[.agg #[.int .i64 xk0, .int .i64 xn0, .slice A0 m0 c0], .slice Av nv cv] w (NfGot w S f0)) (hof1 : ∀ w, (∀ k, k < b → w.heap[k]? = w0.heap[k]?) → w0.heap.size ≤ w.heap.size → Calls Try.prog 34 #[.agg #[.int .i64 xk1, .int .i64 xn1, .slice A1 m1 c1], .slice Av nv cv] w (NfGot w S f1)) (hf0 : NfOk f0) (hf1 : NfOk f1) (Q : Exit → Act → World → Prop) (a0 : Act) (hi1 : a0.tmps.getD 1 undef = .slice Av nv cv) (hi2 : a0.tmps.getD 2 undef = .pointer (some ⟨b, 0, none⟩)) (hi4 : a0.tmps.getD 4 undef = .pointer (some ⟨b + 1, 0, none⟩)) :
    ObsE Try.prog of7_ops.toArray Q (est2 13 0 (fun k => k = b + 1) (fun _ => False)) of7_C (of7_F w0 b k n gb off c S Av nv cv g0 B0 xk0 xn0 A0 m0 c0 f0 xk1 xn1 A1 m1 c1 f1 ) a0 w0 of7_ops.toArray.toList 0 := by
  have nw1 := of7_nw1
  have nw2 := of7_nw2
  have nw4 := of7_nw4
  refine ⟨?_, ?_, ?_, ?_, ?_, ?_, ?_, ?_, ?_, ?_, ?_, ?_, ?_, ?_, trivial⟩
  · refine ⟨⟨fun τ => stableE_det _, leans_not⟩, ?_⟩
    intro a w O hk
    have e2 : a.eval (.tmp 2) = .pointer (some ⟨b, 0, none⟩) := (hk.init 2 (initialB_of_nw nw2)).trans hi2
    exact obE_run (wanted_none rfl) (by unfold execOp; simp only []; rw [e2]; go_simp) rfl
  · refine ⟨⟨fun τ => stableE_det _, leans_not⟩, ?_⟩
    intro a w O hk
    have e26 : a.eval (.tmp 26) = .pointer (some ⟨b, 2, none⟩) := hk.fact 0 _ 26 rfl rfl rfl rfl
    have x2 := hk.world.still hx2 (fun ⟨_, h⟩ => h.elim (fun h => by have : b = b + 1 := h.2; omega) (fun h => h.2))
    obtain ⟨p0, p1, p2, -, -, -⟩ := row3 x2
    have hfx : ∀ k, k < b → w.heap[k]? = w0.heap[k]? := fun k hkb => hk.fix k (est2_fix (by have := blk_lt hx2; omega) (fun h => by omega) (fun h => h))
    have hcc : ∀ j, w.cell? ⟨gb, j, none⟩ = w0.cell? ⟨gb, j, none⟩ := fun j => cell_same (hfx _ hgb)
    have q0 := (hcc _).trans hc0
    have q1 := (hcc _).trans hc1
    have q2 := (hcc _).trans hc2
    have q3 := (hcc _).trans hc3
    have q4 := (hcc _).trans hc4
    have q5 := (hcc _).trans hc5
    exact obE_run (wanted_none rfl) (by unfold execOp; simp only []; rw [e26]; go_simp) rfl
  · refine ⟨⟨fun τ => stableE_det _, leans_not⟩, ?_⟩
    intro a w O hk
    have e27 : a.eval (.tmp 27) = .slice (some ⟨gb, off, none⟩) 2 c := hk.fact 1 _ 27 rfl rfl rfl rfl
    have x2 := hk.world.still hx2 (fun ⟨_, h⟩ => h.elim (fun h => by have : b = b + 1 := h.2; omega) (fun h => h.2))
    obtain ⟨p0, p1, p2, -, -, -⟩ := row3 x2
    have hfx : ∀ k, k < b → w.heap[k]? = w0.heap[k]? := fun k hkb => hk.fix k (est2_fix (by have := blk_lt hx2; omega) (fun h => by omega) (fun h => h))
    have hcc : ∀ j, w.cell? ⟨gb, j, none⟩ = w0.cell? ⟨gb, j, none⟩ := fun j => cell_same (hfx _ hgb)
    have q0 := (hcc _).trans hc0
    have q1 := (hcc _).trans hc1
    have q2 := (hcc _).trans hc2
    have q3 := (hcc _).trans hc3
    have q4 := (hcc _).trans hc4
    have q5 := (hcc _).trans hc5
    exact obE_run (wanted_none rfl) (by unfold execOp; simp only []; rw [e27]; go_simp) rfl
  · refine ⟨⟨fun τ => stableE_det _, leans_not⟩, ?_⟩
    intro a w O hk
    have e28 : a.eval (.tmp 28) = .pointer (some ⟨gb, off, none⟩) := hk.fact 2 _ 28 rfl rfl rfl rfl
    have x2 := hk.world.still hx2 (fun ⟨_, h⟩ => h.elim (fun h => by have : b = b + 1 := h.2; omega) (fun h => h.2))
    obtain ⟨p0, p1, p2, -, -, -⟩ := row3 x2
    have hfx : ∀ k, k < b → w.heap[k]? = w0.heap[k]? := fun k hkb => hk.fix k (est2_fix (by have := blk_lt hx2; omega) (fun h => by omega) (fun h => h))
    have hcc : ∀ j, w.cell? ⟨gb, j, none⟩ = w0.cell? ⟨gb, j, none⟩ := fun j => cell_same (hfx _ hgb)
    have q0 := (hcc _).trans hc0
    have q1 := (hcc _).trans hc1
    have q2 := (hcc _).trans hc2
    have q3 := (hcc _).trans hc3
    have q4 := (hcc _).trans hc4
    have q5 := (hcc _).trans hc5
    exact obE_run (wanted_none rfl) (by unfold execOp; simp only []; rw [e28]; go_simp) rfl
  · refine ⟨⟨fun τ => stableE_det _, leans_not⟩, ?_⟩
    intro a w O hk
    have e1 : a.eval (.tmp 1) = .slice Av nv cv := (hk.init 1 (initialB_of_nw nw1)).trans hi1
    exact toE (ob_move rfl e1 (wanted_none rfl) rfl)
  · refine ⟨⟨fun τ => stableE_nf (fun k hk' => est2_fix (by have := blk_lt hx2; have := hS k hk'; omega) (fun h => by have := hS k hk'; omega) (fun h => h)), leans_not⟩, ?_⟩
    intro a w O hk
    have e29 : a.eval (.tmp 29) = .agg #[.int .i64 xk0, .int .i64 xn0, .slice A0 m0 c0] := hk.fact 3 _ 29 rfl rfl rfl rfl
    have e30 : a.eval (.tmp 30) = .slice Av nv cv := hk.fact 4 _ 30 rfl rfl rfl rfl
    have x2 := hk.world.still hx2 (fun ⟨_, h⟩ => h.elim (fun h => by have : b = b + 1 := h.2; omega) (fun h => h.2))
    obtain ⟨p0, p1, p2, -, -, -⟩ := row3 x2
    have hfx : ∀ k, k < b → w.heap[k]? = w0.heap[k]? := fun k hkb => hk.fix k (est2_fix (by have := blk_lt hx2; omega) (fun h => by omega) (fun h => h))
    have hcc : ∀ j, w.cell? ⟨gb, j, none⟩ = w0.cell? ⟨gb, j, none⟩ := fun j => cell_same (hfx _ hgb)
    have q0 := (hcc _).trans hc0
    have q1 := (hcc _).trans hc1
    have q2 := (hcc _).trans hc2
    have q3 := (hcc _).trans hc3
    have q4 := (hcc _).trans hc4
    have q5 := (hcc _).trans hc5
    refine obE_callNew #[.agg #[.int .i64 xk0, .int .i64 xn0, .slice A0 m0 c0], .slice Av nv cv] rfl rfl rfl rfl (by simp only [List.map_cons, List.map_nil]; rw [e29, e30]) (wanted_none rfl) ((hof0 w hfx hk.world.size).mono ?_)
    intro e w' h
    exact NfV.of_got h
  · refine ⟨⟨fun τ => stableE_det _, leans_not⟩, ?_⟩
    intro a w O hk
    have e2 : a.eval (.tmp 2) = .pointer (some ⟨b, 0, none⟩) := (hk.init 2 (initialB_of_nw nw2)).trans hi2
    exact obE_run (wanted_none rfl) (by unfold execOp; simp only []; rw [e2]; go_simp) rfl
  · refine ⟨⟨fun τ => stableE_det _, leans_not⟩, ?_⟩
    intro a w O hk
    have e32 : a.eval (.tmp 32) = .pointer (some ⟨b, 2, none⟩) := hk.fact 6 _ 32 rfl rfl rfl rfl
    have x2 := hk.world.still hx2 (fun ⟨_, h⟩ => h.elim (fun h => by have : b = b + 1 := h.2; omega) (fun h => h.2))
    obtain ⟨p0, p1, p2, -, -, -⟩ := row3 x2
    have hfx : ∀ k, k < b → w.heap[k]? = w0.heap[k]? := fun k hkb => hk.fix k (est2_fix (by have := blk_lt hx2; omega) (fun h => by omega) (fun h => h))
    have hcc : ∀ j, w.cell? ⟨gb, j, none⟩ = w0.cell? ⟨gb, j, none⟩ := fun j => cell_same (hfx _ hgb)
    have q0 := (hcc _).trans hc0
    have q1 := (hcc _).trans hc1
    have q2 := (hcc _).trans hc2
    have q3 := (hcc _).trans hc3
    have q4 := (hcc _).trans hc4
    have q5 := (hcc _).trans hc5
    exact obE_run (wanted_none rfl) (by unfold execOp; simp only []; rw [e32]; go_simp) rfl
  · refine ⟨⟨fun τ => stableE_det _, leans_not⟩, ?_⟩
    intro a w O hk
    have e33 : a.eval (.tmp 33) = .slice (some ⟨gb, off, none⟩) 2 c := hk.fact 7 _ 33 rfl rfl rfl rfl
    have x2 := hk.world.still hx2 (fun ⟨_, h⟩ => h.elim (fun h => by have : b = b + 1 := h.2; omega) (fun h => h.2))
    obtain ⟨p0, p1, p2, -, -, -⟩ := row3 x2
    have hfx : ∀ k, k < b → w.heap[k]? = w0.heap[k]? := fun k hkb => hk.fix k (est2_fix (by have := blk_lt hx2; omega) (fun h => by omega) (fun h => h))
    have hcc : ∀ j, w.cell? ⟨gb, j, none⟩ = w0.cell? ⟨gb, j, none⟩ := fun j => cell_same (hfx _ hgb)
    have q0 := (hcc _).trans hc0
    have q1 := (hcc _).trans hc1
    have q2 := (hcc _).trans hc2
    have q3 := (hcc _).trans hc3
    have q4 := (hcc _).trans hc4
    have q5 := (hcc _).trans hc5
    exact obE_run (wanted_none rfl) (by unfold execOp; simp only []; rw [e33]; go_simp) rfl
  · refine ⟨⟨fun τ => stableE_det _, leans_not⟩, ?_⟩
    intro a w O hk
    have e34 : a.eval (.tmp 34) = .pointer (some ⟨gb, off + 3, none⟩) := hk.fact 8 _ 34 rfl rfl rfl rfl
    have x2 := hk.world.still hx2 (fun ⟨_, h⟩ => h.elim (fun h => by have : b = b + 1 := h.2; omega) (fun h => h.2))
    obtain ⟨p0, p1, p2, -, -, -⟩ := row3 x2
    have hfx : ∀ k, k < b → w.heap[k]? = w0.heap[k]? := fun k hkb => hk.fix k (est2_fix (by have := blk_lt hx2; omega) (fun h => by omega) (fun h => h))
    have hcc : ∀ j, w.cell? ⟨gb, j, none⟩ = w0.cell? ⟨gb, j, none⟩ := fun j => cell_same (hfx _ hgb)
    have q0 := (hcc _).trans hc0
    have q1 := (hcc _).trans hc1
    have q2 := (hcc _).trans hc2
    have q3 := (hcc _).trans hc3
    have q4 := (hcc _).trans hc4
    have q5 := (hcc _).trans hc5
    exact obE_run (wanted_none rfl) (by unfold execOp; simp only []; rw [e34]; go_simp) rfl
  · refine ⟨⟨fun τ => stableE_det _, leans_not⟩, ?_⟩
    intro a w O hk
    have e1 : a.eval (.tmp 1) = .slice Av nv cv := (hk.init 1 (initialB_of_nw nw1)).trans hi1
    exact toE (ob_move rfl e1 (wanted_none rfl) rfl)
  · refine ⟨⟨fun τ => stableE_nf (fun k hk' => est2_fix (by have := blk_lt hx2; have := hS k hk'; omega) (fun h => by have := hS k hk'; omega) (fun h => h)), leans_not⟩, ?_⟩
    intro a w O hk
    have e35 : a.eval (.tmp 35) = .agg #[.int .i64 xk1, .int .i64 xn1, .slice A1 m1 c1] := hk.fact 9 _ 35 rfl rfl rfl rfl
    have e36 : a.eval (.tmp 36) = .slice Av nv cv := hk.fact 10 _ 36 rfl rfl rfl rfl
    have x2 := hk.world.still hx2 (fun ⟨_, h⟩ => h.elim (fun h => by have : b = b + 1 := h.2; omega) (fun h => h.2))
    obtain ⟨p0, p1, p2, -, -, -⟩ := row3 x2
    have hfx : ∀ k, k < b → w.heap[k]? = w0.heap[k]? := fun k hkb => hk.fix k (est2_fix (by have := blk_lt hx2; omega) (fun h => by omega) (fun h => h))
    have hcc : ∀ j, w.cell? ⟨gb, j, none⟩ = w0.cell? ⟨gb, j, none⟩ := fun j => cell_same (hfx _ hgb)
    have q0 := (hcc _).trans hc0
    have q1 := (hcc _).trans hc1
    have q2 := (hcc _).trans hc2
    have q3 := (hcc _).trans hc3
    have q4 := (hcc _).trans hc4
    have q5 := (hcc _).trans hc5
    refine obE_callNew #[.agg #[.int .i64 xk1, .int .i64 xn1, .slice A1 m1 c1], .slice Av nv cv] rfl rfl rfl rfl (by simp only [List.map_cons, List.map_nil]; rw [e35, e36]) (wanted_none rfl) ((hof1 w hfx hk.world.size).mono ?_)
    intro e w' h
    exact NfV.of_got h
  · refine ⟨⟨fun τ => stableE_nf (fun k hk' => hk'.elim), leans_not⟩, ?_⟩
    intro a w O hk
    have f31 := hk.fact 5 _ 31 rfl rfl rfl rfl
    have g31 := hk.owns 5 rfl rfl
    have f37 := hk.fact 11 _ 37 rfl rfl rfl rfl
    have g37 := hk.owns 11 rfl rfl
    have x2 := hk.world.still hx2 (fun ⟨_, h⟩ => h.elim (fun h => by have : b = b + 1 := h.2; omega) (fun h => h.2))
    obtain ⟨p0, p1, p2, -, -, -⟩ := row3 x2
    have hfx : ∀ k, k < b → w.heap[k]? = w0.heap[k]? := fun k hkb => hk.fix k (est2_fix (by have := blk_lt hx2; omega) (fun h => by omega) (fun h => h))
    have hcc : ∀ j, w.cell? ⟨gb, j, none⟩ = w0.cell? ⟨gb, j, none⟩ := fun j => cell_same (hfx _ hgb)
    have q0 := (hcc _).trans hc0
    have q1 := (hcc _).trans hc1
    have q2 := (hcc _).trans hc2
    have q3 := (hcc _).trans hc3
    have q4 := (hcc _).trans hc4
    have q5 := (hcc _).trans hc5
    obtain ⟨A, n', cap, e31, h1, h2⟩ := f31
    obtain ⟨A', n'', cap', e37, h1', h2'⟩ := f37
    have hln := h2.1.1
    have hln' := h2'.1.1
    refine obE_callNew #[.agg #[.int .i64 f0.1, .slice A n' cap], .agg #[.int .i64 f1.1, .slice A' n'' cap']] rfl rfl rfl rfl (by simp only [List.map_cons, List.map_nil]; rw [show a.eval (.tmp 31) = _ from e31, show a.eval (.tmp 37) = _ from e37]) (wanted_none rfl) ((or_calls (fun _ => True) A A' n' cap n'' cap' f0.1 f1.1 f0.2 f1.2 w (h2.mono fun _ _ _ => trivial) (h2'.mono fun _ _ _ => trivial) (by have := hf0.2.2.2; omega) (by have := hf1.2.2.2; omega)).mono ?_)
    intro e w' h
    exact NfV.of_got h
  · refine ⟨⟨fun τ => stableE_nfbox (fun k hk' => hk'.elim), leans_not⟩, ?_⟩
    intro a w O hk
    have e4 : a.eval (.tmp 4) = .pointer (some ⟨b + 1, 0, none⟩) := (hk.init 4 (initialB_of_nw nw4)).trans hi4
    have f38 := hk.fact 12 _ 38 rfl rfl rfl rfl
    have g38 := hk.owns 12 rfl rfl
    have x2 := hk.world.still hx2 (fun ⟨_, h⟩ => h.elim (fun h => by have : b = b + 1 := h.2; omega) (fun h => h.2))
    obtain ⟨p0, p1, p2, -, -, -⟩ := row3 x2
    have hfx : ∀ k, k < b → w.heap[k]? = w0.heap[k]? := fun k hkb => hk.fix k (est2_fix (by have := blk_lt hx2; omega) (fun h => by omega) (fun h => h))
    have hcc : ∀ j, w.cell? ⟨gb, j, none⟩ = w0.cell? ⟨gb, j, none⟩ := fun j => cell_same (hfx _ hgb)
    have q0 := (hcc _).trans hc0
    have q1 := (hcc _).trans hc1
    have q2 := (hcc _).trans hc2
    have q3 := (hcc _).trans hc3
    have q4 := (hcc _).trans hc4
    have q5 := (hcc _).trans hc5
    have x4 := (hk.est 13 _ rfl (.inl rfl) (b + 1) (.inl ⟨rfl, rfl⟩)).trans hx4
    obtain ⟨z0, z1, y0, y1⟩ := row2 x4
    obtain ⟨A, n', cap, e38, h1, h2⟩ := f38
    refine obE_store (w' := (w.setCell ⟨b + 1, 0, none⟩ (.int .i64 (orN f0 f1).1)).setCell ⟨b + 1, 1, none⟩ (.slice A n' cap)) (fun k => k = b + 1 ∨ O 12 k) (wanted_none rfl) (by unfold execOp; simp only []; rw [e4, show a.eval (.tmp 38) = _ from e38]; go_simp) ((chg_set2 w (b + 1) _ _).mono fun k h => .inr (.inl ⟨rfl, h⟩)) ?_ (fun k h => .inl ?_)
    · exact ⟨A, n', cap, set2 x4, .inl rfl, h1, (h2.same fun k hk' hz => (chg_set2 w (b + 1) _ _).block k hz (fun h => hk'.elim id fun h' => hk.away 13 12 _ rfl (.inl rfl) rfl rfl (b + 1) (.inl ⟨rfl, rfl⟩) (h ▸ h'))).mono fun k hk' _ => .inr (hk'.elim False.elim fun h' => ⟨.inr h', fun h => hk.away 13 12 _ rfl (.inl rfl) rfl rfl (b + 1) (.inl ⟨rfl, rfl⟩) (h ▸ h')⟩)⟩
    · exact h.elim (fun h => .inr (.inl ⟨rfl, h⟩)) fun h => .inl ⟨12, by simp [of7_C], h⟩
set_option maxRecDepth 100000 in
set_option maxHeartbeats 8000000 in
theorem of7_region {Q : Exit → Act → World → Prop} {id : Nat} (w0 : World) (b : Nat) (k n : Int) (gb off c : Nat) (S : Nat → Prop) (Av : Option Addr) (nv cv : Nat) (g0 B0 : Value) (xk0 xn0 : Int) (A0 : Option Addr) (m0 c0 : Nat) (f0 : Nf) (xk1 xn1 : Int) (A1 : Option Addr) (m1 c1 : Nat) (f1 : Nf)  {s0 s3 s5 s6 s7 s8 s9 s10 s11 s12 s13 s14 s15 s16 s17 s18 s19 s20 s21 s22 s23 s24 s25 s26 s27 s28 s29 s30 s31 s32 s33 s34 s35 s36 s37 s38 s39 s40 s41 s42 s43 s44 s45 s46 s47 s48 s49 s50 s51 s52 s53 s54 s55 s56 s57 s58 s59 : Value} (hx2 : w0.heap[b]? = some (.cells #[.int .i64 k, .int .i64 n, .slice (some ⟨gb, off, none⟩) 2 c] 24 (0, 0))) (hx4 : w0.heap[b + 1]? = some (.cells #[g0, B0] 52 (0, 0))) (hgb : gb < b) (hS : ∀ k, S k → k < b) (hc0 : w0.cell? ⟨gb, off, none⟩ = some (.int .i64 xk0)) (hc1 : w0.cell? ⟨gb, off + 1, none⟩ = some (.int .i64 xn0)) (hc2 : w0.cell? ⟨gb, off + 2, none⟩ = some (.slice A0 m0 c0)) (hc3 : w0.cell? ⟨gb, off + 3, none⟩ = some (.int .i64 xk1)) (hc4 : w0.cell? ⟨gb, off + 4, none⟩ = some (.int .i64 xn1)) (hc5 : w0.cell? ⟨gb, off + 5, none⟩ = some (.slice A1 m1 c1)) (hof0 : ∀ w, (∀ k, k < b → w.heap[k]? = w0.heap[k]?) → w0.heap.size ≤ w.heap.size → Calls Try.prog 34 #[.agg #[.int .i64 xk0, .int .i64 xn0, .slice A0 m0 c0], .slice Av nv cv] w (NfGot w S f0)) (hof1 : ∀ w, (∀ k, k < b → w.heap[k]? = w0.heap[k]?) → w0.heap.size ≤ w.heap.size → Calls Try.prog 34 #[.agg #[.int .i64 xk1, .int .i64 xn1, .slice A1 m1 c1], .slice Av nv cv] w (NfGot w S f1)) (hf0 : NfOk f0) (hf1 : NfOk f1)
    (hend : ∀ (w' : World) (u31 : Value) (u37 : Value) (u38 : Value) (O5 : Nat → Prop) (O11 : Nat → Prop) (v13 : Value) (O13 : Nat → Prop), Chg (fun k => (fun k => k = b + 1) k ∨ (fun _ => False) k) w0 w' → (NfV S f0 u31 w' O5) → (∀ k, O5 k → k < w'.heap.size ∧ ¬ Fix w0 (est2 13 0 (fun k => k = b + 1) (fun _ => False)) k) → (NfV S f1 u37 w' O11) → (∀ k, O11 k → k < w'.heap.size ∧ ¬ Fix w0 (est2 13 0 (fun k => k = b + 1) (fun _ => False)) k) → (NfBox (b + 1) (fun _ => False) (orN f0 f1) w' O13) → (∀ k, O13 k → k < w'.heap.size ∧ ¬ Fix w0 (est2 13 0 (fun k => k = b + 1) (fun _ => False)) k) → Q .normal { tmps := (s0 :: (.slice Av nv cv : Value) :: (.pointer (some ⟨b, 0, none⟩) : Value) :: s3 :: (.pointer (some ⟨b + 1, 0, none⟩) : Value) :: s5 :: s6 :: s7 :: s8 :: s9 :: s10 :: s11 :: s12 :: s13 :: s14 :: s15 :: s16 :: s17 :: s18 :: s19 :: s20 :: s21 :: s22 :: s23 :: s24 :: s25 :: (.pointer (some ⟨b, 2, none⟩) : Value) :: (.slice (some ⟨gb, off, none⟩) 2 c : Value) :: (.pointer (some ⟨gb, off, none⟩) : Value) :: (.agg #[.int .i64 xk0, .int .i64 xn0, .slice A0 m0 c0] : Value) :: (.slice Av nv cv : Value) :: u31 :: (.pointer (some ⟨b, 2, none⟩) : Value) :: (.slice (some ⟨gb, off, none⟩) 2 c : Value) :: (.pointer (some ⟨gb, off + 3, none⟩) : Value) :: (.agg #[.int .i64 xk1, .int .i64 xn1, .slice A1 m1 c1] : Value) :: (.slice Av nv cv : Value) :: u37 :: u38 :: s39 :: s40 :: s41 :: s42 :: s43 :: s44 :: s45 :: s46 :: s47 :: s48 :: s49 :: s50 :: s51 :: s52 :: s53 :: s54 :: s55 :: s56 :: s57 :: s58 :: s59 :: ([] : List Value)).toArray, defers := [] } w') :
    (Code.region id of7_ops.toArray true).wp Try.prog Q { tmps := (s0 :: (.slice Av nv cv : Value) :: (.pointer (some ⟨b, 0, none⟩) : Value) :: s3 :: (.pointer (some ⟨b + 1, 0, none⟩) : Value) :: s5 :: s6 :: s7 :: s8 :: s9 :: s10 :: s11 :: s12 :: s13 :: s14 :: s15 :: s16 :: s17 :: s18 :: s19 :: s20 :: s21 :: s22 :: s23 :: s24 :: s25 :: s26 :: s27 :: s28 :: s29 :: s30 :: s31 :: s32 :: s33 :: s34 :: s35 :: s36 :: s37 :: s38 :: s39 :: s40 :: s41 :: s42 :: s43 :: s44 :: s45 :: s46 :: s47 :: s48 :: s49 :: s50 :: s51 :: s52 :: s53 :: s54 :: s55 :: s56 :: s57 :: s58 :: s59 :: ([] : List Value)).toArray, defers := [] } w0 := by
  refine wp_region_est (by kernel_rfl) (est2 13 0 (fun k => k = b + 1) (fun _ => False)) of7_C (of7_F w0 b k n gb off c S Av nv cv g0 B0 xk0 xn0 A0 m0 c0 f0 xk1 xn1 A1 m1 c1 f1 ) (est2_dis (fun k h1 h2 => h2)) (est2_range (fun k h => by have := blk_lt hx4; omega) (fun k h => h.elim)) (by rfl) (by kernel_rfl) (of7_obs w0.drew b k n gb off c S Av nv cv g0 B0 xk0 xn0 A0 m0 c0 f0 xk1 xn1 A1 m1 c1 f1  hx2 hx4 hgb hS hc0 hc1 hc2 hc3 hc4 hc5 hof0 hof1 hf0 hf1 _ _ rfl rfl rfl) ?_
  intro a w' O hd hs hb hf hf2 ha hsame
  have x0 : a.tmps.getD 0 undef = s0 := hsame 0 (nwB.spec (by kernel_rfl))
  have x1 : a.tmps.getD 1 undef = .slice Av nv cv := hsame 1 (nwB.spec (by kernel_rfl))
  have x2 : a.tmps.getD 2 undef = .pointer (some ⟨b, 0, none⟩) := hsame 2 (nwB.spec (by kernel_rfl))
  have x3 : a.tmps.getD 3 undef = s3 := hsame 3 (nwB.spec (by kernel_rfl))
  have x4 : a.tmps.getD 4 undef = .pointer (some ⟨b + 1, 0, none⟩) := hsame 4 (nwB.spec (by kernel_rfl))
  have x5 : a.tmps.getD 5 undef = s5 := hsame 5 (nwB.spec (by kernel_rfl))
  have x6 : a.tmps.getD 6 undef = s6 := hsame 6 (nwB.spec (by kernel_rfl))
  have x7 : a.tmps.getD 7 undef = s7 := hsame 7 (nwB.spec (by kernel_rfl))
  have x8 : a.tmps.getD 8 undef = s8 := hsame 8 (nwB.spec (by kernel_rfl))
  have x9 : a.tmps.getD 9 undef = s9 := hsame 9 (nwB.spec (by kernel_rfl))
  have x10 : a.tmps.getD 10 undef = s10 := hsame 10 (nwB.spec (by kernel_rfl))
  have x11 : a.tmps.getD 11 undef = s11 := hsame 11 (nwB.spec (by kernel_rfl))
  have x12 : a.tmps.getD 12 undef = s12 := hsame 12 (nwB.spec (by kernel_rfl))
  have x13 : a.tmps.getD 13 undef = s13 := hsame 13 (nwB.spec (by kernel_rfl))
  have x14 : a.tmps.getD 14 undef = s14 := hsame 14 (nwB.spec (by kernel_rfl))
  have x15 : a.tmps.getD 15 undef = s15 := hsame 15 (nwB.spec (by kernel_rfl))
  have x16 : a.tmps.getD 16 undef = s16 := hsame 16 (nwB.spec (by kernel_rfl))
  have x17 : a.tmps.getD 17 undef = s17 := hsame 17 (nwB.spec (by kernel_rfl))
  have x18 : a.tmps.getD 18 undef = s18 := hsame 18 (nwB.spec (by kernel_rfl))
  have x19 : a.tmps.getD 19 undef = s19 := hsame 19 (nwB.spec (by kernel_rfl))
  have x20 : a.tmps.getD 20 undef = s20 := hsame 20 (nwB.spec (by kernel_rfl))
  have x21 : a.tmps.getD 21 undef = s21 := hsame 21 (nwB.spec (by kernel_rfl))
  have x22 : a.tmps.getD 22 undef = s22 := hsame 22 (nwB.spec (by kernel_rfl))
  have x23 : a.tmps.getD 23 undef = s23 := hsame 23 (nwB.spec (by kernel_rfl))
  have x24 : a.tmps.getD 24 undef = s24 := hsame 24 (nwB.spec (by kernel_rfl))
  have x25 : a.tmps.getD 25 undef = s25 := hsame 25 (nwB.spec (by kernel_rfl))
  have x26 : a.tmps.getD 26 undef = .pointer (some ⟨b, 2, none⟩) := (hf 0 _ 26 rfl rfl (by decide)).1
  have x27 : a.tmps.getD 27 undef = .slice (some ⟨gb, off, none⟩) 2 c := (hf 1 _ 27 rfl rfl (by decide)).1
  have x28 : a.tmps.getD 28 undef = .pointer (some ⟨gb, off, none⟩) := (hf 2 _ 28 rfl rfl (by decide)).1
  have x29 : a.tmps.getD 29 undef = .agg #[.int .i64 xk0, .int .i64 xn0, .slice A0 m0 c0] := (hf 3 _ 29 rfl rfl (by decide)).1
  have x30 : a.tmps.getD 30 undef = .slice Av nv cv := (hf 4 _ 30 rfl rfl (by decide)).1
  have x32 : a.tmps.getD 32 undef = .pointer (some ⟨b, 2, none⟩) := (hf 6 _ 32 rfl rfl (by decide)).1
  have x33 : a.tmps.getD 33 undef = .slice (some ⟨gb, off, none⟩) 2 c := (hf 7 _ 33 rfl rfl (by decide)).1
  have x34 : a.tmps.getD 34 undef = .pointer (some ⟨gb, off + 3, none⟩) := (hf 8 _ 34 rfl rfl (by decide)).1
  have x35 : a.tmps.getD 35 undef = .agg #[.int .i64 xk1, .int .i64 xn1, .slice A1 m1 c1] := (hf 9 _ 35 rfl rfl (by decide)).1
  have x36 : a.tmps.getD 36 undef = .slice Av nv cv := (hf 10 _ 36 rfl rfl (by decide)).1
  have x39 : a.tmps.getD 39 undef = s39 := hsame 39 (nwB.spec (by kernel_rfl))
  have x40 : a.tmps.getD 40 undef = s40 := hsame 40 (nwB.spec (by kernel_rfl))
  have x41 : a.tmps.getD 41 undef = s41 := hsame 41 (nwB.spec (by kernel_rfl))
  have x42 : a.tmps.getD 42 undef = s42 := hsame 42 (nwB.spec (by kernel_rfl))
  have x43 : a.tmps.getD 43 undef = s43 := hsame 43 (nwB.spec (by kernel_rfl))
  have x44 : a.tmps.getD 44 undef = s44 := hsame 44 (nwB.spec (by kernel_rfl))
  have x45 : a.tmps.getD 45 undef = s45 := hsame 45 (nwB.spec (by kernel_rfl))
  have x46 : a.tmps.getD 46 undef = s46 := hsame 46 (nwB.spec (by kernel_rfl))
  have x47 : a.tmps.getD 47 undef = s47 := hsame 47 (nwB.spec (by kernel_rfl))
  have x48 : a.tmps.getD 48 undef = s48 := hsame 48 (nwB.spec (by kernel_rfl))
  have x49 : a.tmps.getD 49 undef = s49 := hsame 49 (nwB.spec (by kernel_rfl))
  have x50 : a.tmps.getD 50 undef = s50 := hsame 50 (nwB.spec (by kernel_rfl))
  have x51 : a.tmps.getD 51 undef = s51 := hsame 51 (nwB.spec (by kernel_rfl))
  have x52 : a.tmps.getD 52 undef = s52 := hsame 52 (nwB.spec (by kernel_rfl))
  have x53 : a.tmps.getD 53 undef = s53 := hsame 53 (nwB.spec (by kernel_rfl))
  have x54 : a.tmps.getD 54 undef = s54 := hsame 54 (nwB.spec (by kernel_rfl))
  have x55 : a.tmps.getD 55 undef = s55 := hsame 55 (nwB.spec (by kernel_rfl))
  have x56 : a.tmps.getD 56 undef = s56 := hsame 56 (nwB.spec (by kernel_rfl))
  have x57 : a.tmps.getD 57 undef = s57 := hsame 57 (nwB.spec (by kernel_rfl))
  have x58 : a.tmps.getD 58 undef = s58 := hsame 58 (nwB.spec (by kernel_rfl))
  have x59 : a.tmps.getD 59 undef = s59 := hsame 59 (nwB.spec (by kernel_rfl))
  have hl : a.tmps = (s0 :: (.slice Av nv cv : Value) :: (.pointer (some ⟨b, 0, none⟩) : Value) :: s3 :: (.pointer (some ⟨b + 1, 0, none⟩) : Value) :: s5 :: s6 :: s7 :: s8 :: s9 :: s10 :: s11 :: s12 :: s13 :: s14 :: s15 :: s16 :: s17 :: s18 :: s19 :: s20 :: s21 :: s22 :: s23 :: s24 :: s25 :: (.pointer (some ⟨b, 2, none⟩) : Value) :: (.slice (some ⟨gb, off, none⟩) 2 c : Value) :: (.pointer (some ⟨gb, off, none⟩) : Value) :: (.agg #[.int .i64 xk0, .int .i64 xn0, .slice A0 m0 c0] : Value) :: (.slice Av nv cv : Value) :: (a.tmps.getD 31 undef : Value) :: (.pointer (some ⟨b, 2, none⟩) : Value) :: (.slice (some ⟨gb, off, none⟩) 2 c : Value) :: (.pointer (some ⟨gb, off + 3, none⟩) : Value) :: (.agg #[.int .i64 xk1, .int .i64 xn1, .slice A1 m1 c1] : Value) :: (.slice Av nv cv : Value) :: (a.tmps.getD 37 undef : Value) :: (a.tmps.getD 38 undef : Value) :: s39 :: s40 :: s41 :: s42 :: s43 :: s44 :: s45 :: s46 :: s47 :: s48 :: s49 :: s50 :: s51 :: s52 :: s53 :: s54 :: s55 :: s56 :: s57 :: s58 :: s59 :: ([] : List Value)).toArray := by
    have h := lit a.tmps 60 hs
    have e : ((List.range 60).map (fun i => a.tmps.getD i undef)).toArray = ((a.tmps.getD 0 undef : Value) :: (a.tmps.getD 1 undef : Value) :: (a.tmps.getD 2 undef : Value) :: (a.tmps.getD 3 undef : Value) :: (a.tmps.getD 4 undef : Value) :: (a.tmps.getD 5 undef : Value) :: (a.tmps.getD 6 undef : Value) :: (a.tmps.getD 7 undef : Value) :: (a.tmps.getD 8 undef : Value) :: (a.tmps.getD 9 undef : Value) :: (a.tmps.getD 10 undef : Value) :: (a.tmps.getD 11 undef : Value) :: (a.tmps.getD 12 undef : Value) :: (a.tmps.getD 13 undef : Value) :: (a.tmps.getD 14 undef : Value) :: (a.tmps.getD 15 undef : Value) :: (a.tmps.getD 16 undef : Value) :: (a.tmps.getD 17 undef : Value) :: (a.tmps.getD 18 undef : Value) :: (a.tmps.getD 19 undef : Value) :: (a.tmps.getD 20 undef : Value) :: (a.tmps.getD 21 undef : Value) :: (a.tmps.getD 22 undef : Value) :: (a.tmps.getD 23 undef : Value) :: (a.tmps.getD 24 undef : Value) :: (a.tmps.getD 25 undef : Value) :: (a.tmps.getD 26 undef : Value) :: (a.tmps.getD 27 undef : Value) :: (a.tmps.getD 28 undef : Value) :: (a.tmps.getD 29 undef : Value) :: (a.tmps.getD 30 undef : Value) :: (a.tmps.getD 31 undef : Value) :: (a.tmps.getD 32 undef : Value) :: (a.tmps.getD 33 undef : Value) :: (a.tmps.getD 34 undef : Value) :: (a.tmps.getD 35 undef : Value) :: (a.tmps.getD 36 undef : Value) :: (a.tmps.getD 37 undef : Value) :: (a.tmps.getD 38 undef : Value) :: (a.tmps.getD 39 undef : Value) :: (a.tmps.getD 40 undef : Value) :: (a.tmps.getD 41 undef : Value) :: (a.tmps.getD 42 undef : Value) :: (a.tmps.getD 43 undef : Value) :: (a.tmps.getD 44 undef : Value) :: (a.tmps.getD 45 undef : Value) :: (a.tmps.getD 46 undef : Value) :: (a.tmps.getD 47 undef : Value) :: (a.tmps.getD 48 undef : Value) :: (a.tmps.getD 49 undef : Value) :: (a.tmps.getD 50 undef : Value) :: (a.tmps.getD 51 undef : Value) :: (a.tmps.getD 52 undef : Value) :: (a.tmps.getD 53 undef : Value) :: (a.tmps.getD 54 undef : Value) :: (a.tmps.getD 55 undef : Value) :: (a.tmps.getD 56 undef : Value) :: (a.tmps.getD 57 undef : Value) :: (a.tmps.getD 58 undef : Value) :: (a.tmps.getD 59 undef : Value) :: ([] : List Value)).toArray := rfl
    rw [e, x0, x1, x2, x3, x4, x5, x6, x7, x8, x9, x10, x11, x12, x13, x14, x15, x16, x17, x18, x19, x20, x21, x22, x23, x24, x25, x26, x27, x28, x29, x30, x32, x33, x34, x35, x36, x39, x40, x41, x42, x43, x44, x45, x46, x47, x48, x49, x50, x51, x52, x53, x54, x55, x56, x57, x58, x59] at h
    exact h
  obtain ⟨tmps, defers⟩ := a
  obtain rfl : defers = [] := hd
  have hl' : tmps = _ := hl
  rw [hl']
  obtain ⟨⟨v13, hv13⟩, ho13⟩ := hf2 13 _ rfl rfl (by decide)
  have hb' := est2_chg hb
  exact hend w' _ _ _ (O 5) (O 11) v13 (O 13) ⟨hb'.os, hb'.tape, hb'.output, hb'.size, hb'.block⟩ (hf 5 _ 31 rfl rfl (by decide)).1 (hf 5 _ 31 rfl rfl (by decide)).2 (hf 11 _ 37 rfl rfl (by decide)).1 (hf 11 _ 37 rfl rfl (by decide)).2 hv13 ho13

end Go.Proofs.Ytjlhbaohippidaa
