/-
  The regions of the law LevelMaxes.
-/
import Derived.Test.YtjlhbaohippidaaOpsL
import Derived.Test.YtjlhbaohippidaaSz
namespace Go.Proofs.Ytjlhbaohippidaa
open Go.RowKit Go.Proofs.YtjlhbaohippidaaW.PrintWords Go.RegionInvYtjlhbaohippidaa Go.RegionEYtjlhbaohippidaa
set_option linter.unusedVariables false

def mxa_ops : List Oper := [
  { dst := some 23, op := Go.Op.load 24 (Go.Operand.tmp 3), type := 24, pos := "more.go:16", after := #[], guard := none },
  { dst := some 24, op := Go.Op.load 24 (Go.Operand.tmp 4), type := 24, pos := "more.go:16", after := #[], guard := none },
  { dst := some 25, op := Go.Op.load 24 (Go.Operand.tmp 5), type := 24, pos := "more.go:16", after := #[], guard := none },
  { dst := some 26, op := Go.Op.call { callee := Go.Callee.value (Go.Operand.func 17), args := #[Go.Operand.tmp 24, Go.Operand.tmp 25], argTypes := #[24, 24] }, type := 24, pos := "more.go:16", after := #[{ on := 1, ground := Go.Ground.data }, { on := 2, ground := Go.Ground.data }], guard := none },
  { dst := some 27, op := Go.Op.call { callee := Go.Callee.value (Go.Operand.func 17), args := #[Go.Operand.tmp 23, Go.Operand.tmp 26], argTypes := #[24, 24] }, type := 24, pos := "more.go:16", after := #[{ on := 0, ground := Go.Ground.data }, { on := 3, ground := Go.Ground.data }, { on := 3, ground := Go.Ground.chain }], guard := none },
  { dst := some 28, op := Go.Op.load 24 (Go.Operand.tmp 5), type := 24, pos := "more.go:16", after := #[], guard := none },
  { dst := some 29, op := Go.Op.load 24 (Go.Operand.tmp 3), type := 24, pos := "more.go:16", after := #[], guard := none },
  { dst := some 30, op := Go.Op.call { callee := Go.Callee.value (Go.Operand.func 17), args := #[Go.Operand.tmp 28, Go.Operand.tmp 29], argTypes := #[24, 24] }, type := 24, pos := "more.go:16", after := #[{ on := 5, ground := Go.Ground.data }, { on := 6, ground := Go.Ground.data }, { on := 4, ground := Go.Ground.chain }], guard := none },
  { dst := some 31, op := Go.Op.load 24 (Go.Operand.tmp 4), type := 24, pos := "more.go:16", after := #[], guard := none },
  { dst := some 32, op := Go.Op.call { callee := Go.Callee.value (Go.Operand.func 17), args := #[Go.Operand.tmp 30, Go.Operand.tmp 31], argTypes := #[24, 24] }, type := 24, pos := "more.go:16", after := #[{ on := 7, ground := Go.Ground.data }, { on := 8, ground := Go.Ground.data }, { on := 7, ground := Go.Ground.chain }], guard := none },
  { dst := some 7, op := Go.Op.alloc 24, type := 0, pos := "more.go:16", after := #[], guard := none },
  { dst := some 8, op := Go.Op.alloc 24, type := 0, pos := "more.go:16", after := #[], guard := none },
  { dst := none, op := Go.Op.store 24 (Go.Operand.tmp 7) (Go.Operand.tmp 27), type := 0, pos := "more.go:16", after := #[{ on := 10, ground := Go.Ground.data }, { on := 4, ground := Go.Ground.data }, { on := 9, ground := Go.Ground.chain }, { on := 0, ground := Go.Ground.phase }, { on := 1, ground := Go.Ground.phase }, { on := 2, ground := Go.Ground.phase }, { on := 3, ground := Go.Ground.phase }, { on := 4, ground := Go.Ground.phase }, { on := 5, ground := Go.Ground.textOnly Go.Departure.lateStores }, { on := 6, ground := Go.Ground.textOnly Go.Departure.lateStores }, { on := 7, ground := Go.Ground.textOnly Go.Departure.lateStoresUnsure }, { on := 8, ground := Go.Ground.textOnly Go.Departure.lateStores }, { on := 9, ground := Go.Ground.textOnly Go.Departure.lateStoresUnsure }, { on := 10, ground := Go.Ground.phase }, { on := 11, ground := Go.Ground.phase }], guard := none },
  { dst := none, op := Go.Op.store 24 (Go.Operand.tmp 8) (Go.Operand.tmp 32), type := 0, pos := "more.go:16", after := #[{ on := 11, ground := Go.Ground.data }, { on := 9, ground := Go.Ground.data }, { on := 12, ground := Go.Ground.chain }, { on := 0, ground := Go.Ground.phase }, { on := 1, ground := Go.Ground.phase }, { on := 2, ground := Go.Ground.phase }, { on := 3, ground := Go.Ground.phase }, { on := 4, ground := Go.Ground.phase }, { on := 5, ground := Go.Ground.phase }, { on := 6, ground := Go.Ground.phase }, { on := 7, ground := Go.Ground.phase }, { on := 8, ground := Go.Ground.phase }, { on := 9, ground := Go.Ground.phase }, { on := 10, ground := Go.Ground.phase }, { on := 11, ground := Go.Ground.phase }, { on := 12, ground := Go.Ground.phase }], guard := none }]
def mxa_F (w0 : World) (b : Nat) (Aa Ab Ac : Option Addr) (ca cb cc : Nat) (la lb lc : Lv) : Nat → (Nat → Value) → Value → World → (Nat → Prop) → Prop := fun rix => match rix with
  | 0 => fun _ v _ _ => v = lvV Aa ca la
  | 1 => fun _ v _ _ => v = lvV Ab cb lb
  | 2 => fun _ v _ _ => v = lvV Ac cc lc
  | 3 => fun τ v w O => LvV (fun k => k < w0.heap.size) (mxP (lb) (lc)) v w O
  | 4 => fun τ v w O => LvV (fun k => k < w0.heap.size) (mxP (la) (mxP (lb) (lc))) v w O
  | 5 => fun _ v _ _ => v = lvV Ac cc lc
  | 6 => fun _ v _ _ => v = lvV Aa ca la
  | 7 => fun τ v w O => LvV (fun k => k < w0.heap.size) (mxP (lc) (la)) v w O
  | 8 => fun _ v _ _ => v = lvV Ab cb lb
  | 9 => fun τ v w O => LvV (fun k => k < w0.heap.size) (mxP (mxP (lc) (la)) (lb)) v w O
  | 10 => fun τ v w O => ∃ p, v = .pointer (some ⟨p, 0, none⟩) ∧ w.heap[p]? = some (.cells #[.int .i64 0, .int .i64 0, .slice none 0 0] 24 (0, 0)) ∧ O p
  | 11 => fun τ v w O => ∃ p, v = .pointer (some ⟨p, 0, none⟩) ∧ w.heap[p]? = some (.cells #[.int .i64 0, .int .i64 0, .slice none 0 0] 24 (0, 0)) ∧ O p
  | 12 => fun τ v w O => ∃ p, τ 7 = .pointer (some ⟨p, 0, none⟩) ∧ LvBox p (fun k => k < w0.heap.size) (mxP (la) (mxP (lb) (lc))) w O
  | 13 => fun τ v w O => ∃ p, τ 8 = .pointer (some ⟨p, 0, none⟩) ∧ LvBox p (fun k => k < w0.heap.size) (mxP (mxP (lc) (la)) (lb)) w O
  | _ => fun _ _ _ _ => True
def mxa_C : Nat → List Nat := fun rix => match rix with
  | 4 => [3]
  | 9 => [7]
  | 12 => [10, 4]
  | 13 => [11, 9]
  | _ => []
theorem mxa_nw3 : nwB mxa_ops.toArray 3 = true := by kernel_rfl
theorem mxa_nw4 : nwB mxa_ops.toArray 4 = true := by kernel_rfl
theorem mxa_nw5 : nwB mxa_ops.toArray 5 = true := by kernel_rfl
set_option maxRecDepth 100000 in
set_option maxHeartbeats 8000000 in
theorem mxa_obs (w0 : World) (b : Nat) (Aa Ab Ac : Option Addr) (ca cb cc : Nat) (la lb lc : Lv) (hxa : w0.heap[b]? = some (.cells #[.int .i64 la.kind, .int .i64 la.num, .slice Aa la.kids.length ca] 24 (0, 0))) (hxb : w0.heap[b + 1]? = some (.cells #[.int .i64 lb.kind, .int .i64 lb.num, .slice Ab lb.kids.length cb] 24 (0, 0))) (hxc : w0.heap[b + 2]? = some (.cells #[.int .i64 lc.kind, .int .i64 lc.num, .slice Ac lc.kids.length cc] 24 (0, 0))) (hina : LvS w0 (fun k => k < w0.heap.size) Aa ca la) (hinb : LvS w0 (fun k => k < w0.heap.size) Ab cb lb) (hinc : LvS w0 (fun k => k < w0.heap.size) Ac cc lc) (Q : Exit → Act → World → Prop) (a0 : Act) (hi3 : a0.tmps.getD 3 undef = .pointer (some ⟨b, 0, none⟩)) (hi4 : a0.tmps.getD 4 undef = .pointer (some ⟨b + 1, 0, none⟩)) (hi5 : a0.tmps.getD 5 undef = .pointer (some ⟨b + 2, 0, none⟩)) :
    ObsE Try.prog mxa_ops.toArray Q (est2 0 0 (fun _ => False) (fun _ => False)) mxa_C (mxa_F w0 b Aa Ab Ac ca cb cc la lb lc) a0 w0 mxa_ops.toArray.toList 0 := by
  have nw3 := mxa_nw3
  have nw4 := mxa_nw4
  have nw5 := mxa_nw5
  refine ⟨?_, ?_, ?_, ?_, ?_, ?_, ?_, ?_, ?_, ?_, ?_, ?_, ?_, ?_, trivial⟩
  · refine ⟨⟨fun τ => stableE_det _, leans_not⟩, ?_⟩
    intro a w O hk
    have e3 : a.eval (.tmp 3) = .pointer (some ⟨b, 0, none⟩) := (hk.init 3 (initialB_of_nw nw3)).trans hi3
    have x3 := hk.world.still hxa (fun ⟨_, h⟩ => h.elim And.right And.right)
    have x4 := hk.world.still hxb (fun ⟨_, h⟩ => h.elim And.right And.right)
    have x5 := hk.world.still hxc (fun ⟨_, h⟩ => h.elim And.right And.right)
    exact obE_loadRow rfl e3 x3 Try.underlying24 rfl (by kernel_rfl) (wanted_none rfl) rfl
  · refine ⟨⟨fun τ => stableE_det _, leans_not⟩, ?_⟩
    intro a w O hk
    have e4 : a.eval (.tmp 4) = .pointer (some ⟨b + 1, 0, none⟩) := (hk.init 4 (initialB_of_nw nw4)).trans hi4
    have x3 := hk.world.still hxa (fun ⟨_, h⟩ => h.elim And.right And.right)
    have x4 := hk.world.still hxb (fun ⟨_, h⟩ => h.elim And.right And.right)
    have x5 := hk.world.still hxc (fun ⟨_, h⟩ => h.elim And.right And.right)
    exact obE_loadRow rfl e4 x4 Try.underlying24 rfl (by kernel_rfl) (wanted_none rfl) rfl
  · refine ⟨⟨fun τ => stableE_det _, leans_not⟩, ?_⟩
    intro a w O hk
    have e5 : a.eval (.tmp 5) = .pointer (some ⟨b + 2, 0, none⟩) := (hk.init 5 (initialB_of_nw nw5)).trans hi5
    have x3 := hk.world.still hxa (fun ⟨_, h⟩ => h.elim And.right And.right)
    have x4 := hk.world.still hxb (fun ⟨_, h⟩ => h.elim And.right And.right)
    have x5 := hk.world.still hxc (fun ⟨_, h⟩ => h.elim And.right And.right)
    exact obE_loadRow rfl e5 x5 Try.underlying24 rfl (by kernel_rfl) (wanted_none rfl) rfl
  · refine ⟨⟨fun τ => stableE_lv (fun k hk' => est2_fix hk' (fun h => h) (fun h => h)), leans_not⟩, ?_⟩
    intro a w O hk
    have e24 : a.eval (.tmp 24) = lvV Ab cb lb := hk.fact 1 _ 24 rfl rfl rfl rfl
    have e25 : a.eval (.tmp 25) = lvV Ac cc lc := hk.fact 2 _ 25 rfl rfl rfl rfl
    have x3 := hk.world.still hxa (fun ⟨_, h⟩ => h.elim And.right And.right)
    have x4 := hk.world.still hxb (fun ⟨_, h⟩ => h.elim And.right And.right)
    have x5 := hk.world.still hxc (fun ⟨_, h⟩ => h.elim And.right And.right)
    exact obE_lvMax rfl (wanted_none rfl) (show LvV (fun k => k < w0.heap.size) lb (a.eval (.tmp 24)) w (fun _ => False) by rw [e24]; exact LvV.old hinb (fun k hk' => est2_fix hk' (fun h => h) (fun h => h)) hk.fix) (show LvV (fun k => k < w0.heap.size) lc (a.eval (.tmp 25)) w (fun _ => False) by rw [e25]; exact LvV.old hinc (fun k hk' => est2_fix hk' (fun h => h) (fun h => h)) hk.fix) (fun k h => h.elim) (fun k h => h.elim)
  · refine ⟨⟨fun τ => stableE_lv (fun k hk' => est2_fix hk' (fun h => h) (fun h => h)), leans_not⟩, ?_⟩
    intro a w O hk
    have e23 : a.eval (.tmp 23) = lvV Aa ca la := hk.fact 0 _ 23 rfl rfl rfl rfl
    have f26 := hk.fact 3 _ 26 rfl rfl rfl rfl
    have g26 := hk.owns 3 rfl rfl
    have x3 := hk.world.still hxa (fun ⟨_, h⟩ => h.elim And.right And.right)
    have x4 := hk.world.still hxb (fun ⟨_, h⟩ => h.elim And.right And.right)
    have x5 := hk.world.still hxc (fun ⟨_, h⟩ => h.elim And.right And.right)
    exact obE_lvMax rfl (wanted_none rfl) (show LvV (fun k => k < w0.heap.size) la (a.eval (.tmp 23)) w (fun _ => False) by rw [e23]; exact LvV.old hina (fun k hk' => est2_fix hk' (fun h => h) (fun h => h)) hk.fix) (show LvV (fun k => k < w0.heap.size) (mxP (lb) (lc)) (a.eval (.tmp 26)) w (O 3) from f26) (fun k h => h.elim) (fun k h => .inl ⟨3, by simp [mxa_C], h⟩)
  · refine ⟨⟨fun τ => stableE_det _, leans_not⟩, ?_⟩
    intro a w O hk
    have e5 : a.eval (.tmp 5) = .pointer (some ⟨b + 2, 0, none⟩) := (hk.init 5 (initialB_of_nw nw5)).trans hi5
    have x3 := hk.world.still hxa (fun ⟨_, h⟩ => h.elim And.right And.right)
    have x4 := hk.world.still hxb (fun ⟨_, h⟩ => h.elim And.right And.right)
    have x5 := hk.world.still hxc (fun ⟨_, h⟩ => h.elim And.right And.right)
    exact obE_loadRow rfl e5 x5 Try.underlying24 rfl (by kernel_rfl) (wanted_none rfl) rfl
  · refine ⟨⟨fun τ => stableE_det _, leans_not⟩, ?_⟩
    intro a w O hk
    have e3 : a.eval (.tmp 3) = .pointer (some ⟨b, 0, none⟩) := (hk.init 3 (initialB_of_nw nw3)).trans hi3
    have x3 := hk.world.still hxa (fun ⟨_, h⟩ => h.elim And.right And.right)
    have x4 := hk.world.still hxb (fun ⟨_, h⟩ => h.elim And.right And.right)
    have x5 := hk.world.still hxc (fun ⟨_, h⟩ => h.elim And.right And.right)
    exact obE_loadRow rfl e3 x3 Try.underlying24 rfl (by kernel_rfl) (wanted_none rfl) rfl
  · refine ⟨⟨fun τ => stableE_lv (fun k hk' => est2_fix hk' (fun h => h) (fun h => h)), leans_not⟩, ?_⟩
    intro a w O hk
    have e28 : a.eval (.tmp 28) = lvV Ac cc lc := hk.fact 5 _ 28 rfl rfl rfl rfl
    have e29 : a.eval (.tmp 29) = lvV Aa ca la := hk.fact 6 _ 29 rfl rfl rfl rfl
    have x3 := hk.world.still hxa (fun ⟨_, h⟩ => h.elim And.right And.right)
    have x4 := hk.world.still hxb (fun ⟨_, h⟩ => h.elim And.right And.right)
    have x5 := hk.world.still hxc (fun ⟨_, h⟩ => h.elim And.right And.right)
    exact obE_lvMax rfl (wanted_none rfl) (show LvV (fun k => k < w0.heap.size) lc (a.eval (.tmp 28)) w (fun _ => False) by rw [e28]; exact LvV.old hinc (fun k hk' => est2_fix hk' (fun h => h) (fun h => h)) hk.fix) (show LvV (fun k => k < w0.heap.size) la (a.eval (.tmp 29)) w (fun _ => False) by rw [e29]; exact LvV.old hina (fun k hk' => est2_fix hk' (fun h => h) (fun h => h)) hk.fix) (fun k h => h.elim) (fun k h => h.elim)
  · refine ⟨⟨fun τ => stableE_det _, leans_not⟩, ?_⟩
    intro a w O hk
    have e4 : a.eval (.tmp 4) = .pointer (some ⟨b + 1, 0, none⟩) := (hk.init 4 (initialB_of_nw nw4)).trans hi4
    have x3 := hk.world.still hxa (fun ⟨_, h⟩ => h.elim And.right And.right)
    have x4 := hk.world.still hxb (fun ⟨_, h⟩ => h.elim And.right And.right)
    have x5 := hk.world.still hxc (fun ⟨_, h⟩ => h.elim And.right And.right)
    exact obE_loadRow rfl e4 x4 Try.underlying24 rfl (by kernel_rfl) (wanted_none rfl) rfl
  · refine ⟨⟨fun τ => stableE_lv (fun k hk' => est2_fix hk' (fun h => h) (fun h => h)), leans_not⟩, ?_⟩
    intro a w O hk
    have f30 := hk.fact 7 _ 30 rfl rfl rfl rfl
    have g30 := hk.owns 7 rfl rfl
    have e31 : a.eval (.tmp 31) = lvV Ab cb lb := hk.fact 8 _ 31 rfl rfl rfl rfl
    have x3 := hk.world.still hxa (fun ⟨_, h⟩ => h.elim And.right And.right)
    have x4 := hk.world.still hxb (fun ⟨_, h⟩ => h.elim And.right And.right)
    have x5 := hk.world.still hxc (fun ⟨_, h⟩ => h.elim And.right And.right)
    exact obE_lvMax rfl (wanted_none rfl) (show LvV (fun k => k < w0.heap.size) (mxP (lc) (la)) (a.eval (.tmp 30)) w (O 7) from f30) (show LvV (fun k => k < w0.heap.size) lb (a.eval (.tmp 31)) w (fun _ => False) by rw [e31]; exact LvV.old hinb (fun k hk' => est2_fix hk' (fun h => h) (fun h => h)) hk.fix) (fun k h => .inl ⟨7, by simp [mxa_C], h⟩) (fun k h => h.elim)
  · refine ⟨⟨fun τ => stableE_ex fun p => stableE_and stableE_pure (stableE_block _ _), leans_not⟩, ?_⟩
    intro a w O hk
    have x3 := hk.world.still hxa (fun ⟨_, h⟩ => h.elim And.right And.right)
    have x4 := hk.world.still hxb (fun ⟨_, h⟩ => h.elim And.right And.right)
    have x5 := hk.world.still hxc (fun ⟨_, h⟩ => h.elim And.right And.right)
    exact obE_lvBox (wanted_none rfl) (by unfold execOp; simp only []; go_simp)
  · refine ⟨⟨fun τ => stableE_ex fun p => stableE_and stableE_pure (stableE_block _ _), leans_not⟩, ?_⟩
    intro a w O hk
    have x3 := hk.world.still hxa (fun ⟨_, h⟩ => h.elim And.right And.right)
    have x4 := hk.world.still hxb (fun ⟨_, h⟩ => h.elim And.right And.right)
    have x5 := hk.world.still hxc (fun ⟨_, h⟩ => h.elim And.right And.right)
    exact obE_lvBox (wanted_none rfl) (by unfold execOp; simp only []; go_simp)
  · refine ⟨⟨fun τ => stableE_ex fun p v w w' O h hz hk => ⟨h.1, stableE_lvbox (fun k hk' => est2_fix hk' (fun h => h) (fun h => h)) v w w' O h.2 hz hk⟩, fun τ τ' h => by have e : τ' 7 = τ 7 := h 10 _ 7 rfl rfl rfl; show (fun v w O => ∃ p, τ 7 = _ ∧ LvBox p _ _ w O) = (fun v w O => ∃ p, τ' 7 = _ ∧ LvBox p _ _ w O); rw [e]⟩, ?_⟩
    intro a w O hk
    have f7 := hk.fact 10 _ 7 rfl rfl rfl rfl
    have g7 := hk.owns 10 rfl rfl
    have f27 := hk.fact 4 _ 27 rfl rfl rfl rfl
    have g27 := hk.owns 4 rfl rfl
    have x3 := hk.world.still hxa (fun ⟨_, h⟩ => h.elim And.right And.right)
    have x4 := hk.world.still hxb (fun ⟨_, h⟩ => h.elim And.right And.right)
    have x5 := hk.world.still hxc (fun ⟨_, h⟩ => h.elim And.right And.right)
    exact obE_lvStore (x := .tmp 7) (y := .tmp 27) rfl (wanted_none rfl) rfl (fun p A c e1 e2 d0 d1 d2 f0 f1 f2 => by unfold lvV at e2; unfold execOp; simp only []; rw [e1, e2]; go_simp) f7 (show LvV (fun k => k < w0.heap.size) (mxP (la) (mxP (lb) (lc))) (a.eval (.tmp 27)) w (O 4) from f27) (fun k h => .inl ⟨10, by simp [mxa_C], h⟩) (fun k h => .inl ⟨4, by simp [mxa_C], h⟩) (hk.apart 10 4 rfl rfl rfl rfl (by decide)) (fun k h1 h2 => (g7 k h2).2 ((fun k hk' => est2_fix hk' (fun h => h) (fun h => h)) k h1))
  · refine ⟨⟨fun τ => stableE_ex fun p v w w' O h hz hk => ⟨h.1, stableE_lvbox (fun k hk' => est2_fix hk' (fun h => h) (fun h => h)) v w w' O h.2 hz hk⟩, fun τ τ' h => by have e : τ' 8 = τ 8 := h 11 _ 8 rfl rfl rfl; show (fun v w O => ∃ p, τ 8 = _ ∧ LvBox p _ _ w O) = (fun v w O => ∃ p, τ' 8 = _ ∧ LvBox p _ _ w O); rw [e]⟩, ?_⟩
    intro a w O hk
    have f8 := hk.fact 11 _ 8 rfl rfl rfl rfl
    have g8 := hk.owns 11 rfl rfl
    have f32 := hk.fact 9 _ 32 rfl rfl rfl rfl
    have g32 := hk.owns 9 rfl rfl
    have x3 := hk.world.still hxa (fun ⟨_, h⟩ => h.elim And.right And.right)
    have x4 := hk.world.still hxb (fun ⟨_, h⟩ => h.elim And.right And.right)
    have x5 := hk.world.still hxc (fun ⟨_, h⟩ => h.elim And.right And.right)
    exact obE_lvStore (x := .tmp 8) (y := .tmp 32) rfl (wanted_none rfl) rfl (fun p A c e1 e2 d0 d1 d2 f0 f1 f2 => by unfold lvV at e2; unfold execOp; simp only []; rw [e1, e2]; go_simp) f8 (show LvV (fun k => k < w0.heap.size) (mxP (mxP (lc) (la)) (lb)) (a.eval (.tmp 32)) w (O 9) from f32) (fun k h => .inl ⟨11, by simp [mxa_C], h⟩) (fun k h => .inl ⟨9, by simp [mxa_C], h⟩) (hk.apart 11 9 rfl rfl rfl rfl (by decide)) (fun k h1 h2 => (g8 k h2).2 ((fun k hk' => est2_fix hk' (fun h => h) (fun h => h)) k h1))
set_option maxRecDepth 100000 in
set_option maxHeartbeats 8000000 in
theorem mxa_region {Q : Exit → Act → World → Prop} {id : Nat} (w0 : World) (b : Nat) (Aa Ab Ac : Option Addr) (ca cb cc : Nat) (la lb lc : Lv) {s0 s1 s2 s6 s7 s8 s9 s10 s11 s12 s13 s14 s15 s16 s17 s18 s19 s20 s21 s22 s23 s24 s25 s26 s27 s28 s29 s30 s31 s32 s33 s34 s35 s36 s37 s38 s39 s40 s41 s42 s43 s44 s45 s46 s47 s48 s49 s50 s51 s52 s53 s54 s55 s56 s57 s58 s59 s60 s61 s62 s63 s64 s65 s66 s67 s68 s69 s70 : Value} (hxa : w0.heap[b]? = some (.cells #[.int .i64 la.kind, .int .i64 la.num, .slice Aa la.kids.length ca] 24 (0, 0))) (hxb : w0.heap[b + 1]? = some (.cells #[.int .i64 lb.kind, .int .i64 lb.num, .slice Ab lb.kids.length cb] 24 (0, 0))) (hxc : w0.heap[b + 2]? = some (.cells #[.int .i64 lc.kind, .int .i64 lc.num, .slice Ac lc.kids.length cc] 24 (0, 0))) (hina : LvS w0 (fun k => k < w0.heap.size) Aa ca la) (hinb : LvS w0 (fun k => k < w0.heap.size) Ab cb lb) (hinc : LvS w0 (fun k => k < w0.heap.size) Ac cc lc)
    (hend : ∀ (w' : World) (u7 : Value) (u8 : Value) (u26 : Value) (u27 : Value) (u30 : Value) (u32 : Value) (v12 : Value) (O12 : Nat → Prop) (v13 : Value) (O13 : Nat → Prop), Chg (fun k => False ∨ False) w0 w' → (∃ p, u7 = .pointer (some ⟨p, 0, none⟩) ∧ LvBox p (fun k => k < w0.heap.size) (mxP (la) (mxP (lb) (lc))) w' O12) → (∀ k, O12 k → k < w'.heap.size ∧ ¬ Fix w0 (est2 0 0 (fun _ => False) (fun _ => False)) k) → (∃ p, u8 = .pointer (some ⟨p, 0, none⟩) ∧ LvBox p (fun k => k < w0.heap.size) (mxP (mxP (lc) (la)) (lb)) w' O13) → (∀ k, O13 k → k < w'.heap.size ∧ ¬ Fix w0 (est2 0 0 (fun _ => False) (fun _ => False)) k) → Q .normal { tmps := (s0 :: s1 :: s2 :: (.pointer (some ⟨b, 0, none⟩) : Value) :: (.pointer (some ⟨b + 1, 0, none⟩) : Value) :: (.pointer (some ⟨b + 2, 0, none⟩) : Value) :: s6 :: u7 :: u8 :: s9 :: s10 :: s11 :: s12 :: s13 :: s14 :: s15 :: s16 :: s17 :: s18 :: s19 :: s20 :: s21 :: s22 :: (lvV Aa ca la : Value) :: (lvV Ab cb lb : Value) :: (lvV Ac cc lc : Value) :: u26 :: u27 :: (lvV Ac cc lc : Value) :: (lvV Aa ca la : Value) :: u30 :: (lvV Ab cb lb : Value) :: u32 :: s33 :: s34 :: s35 :: s36 :: s37 :: s38 :: s39 :: s40 :: s41 :: s42 :: s43 :: s44 :: s45 :: s46 :: s47 :: s48 :: s49 :: s50 :: s51 :: s52 :: s53 :: s54 :: s55 :: s56 :: s57 :: s58 :: s59 :: s60 :: s61 :: s62 :: s63 :: s64 :: s65 :: s66 :: s67 :: s68 :: s69 :: s70 :: ([] : List Value)).toArray, defers := [] } w') :
    (Code.region id mxa_ops.toArray true).wp Try.prog Q { tmps := (s0 :: s1 :: s2 :: (.pointer (some ⟨b, 0, none⟩) : Value) :: (.pointer (some ⟨b + 1, 0, none⟩) : Value) :: (.pointer (some ⟨b + 2, 0, none⟩) : Value) :: s6 :: s7 :: s8 :: s9 :: s10 :: s11 :: s12 :: s13 :: s14 :: s15 :: s16 :: s17 :: s18 :: s19 :: s20 :: s21 :: s22 :: s23 :: s24 :: s25 :: s26 :: s27 :: s28 :: s29 :: s30 :: s31 :: s32 :: s33 :: s34 :: s35 :: s36 :: s37 :: s38 :: s39 :: s40 :: s41 :: s42 :: s43 :: s44 :: s45 :: s46 :: s47 :: s48 :: s49 :: s50 :: s51 :: s52 :: s53 :: s54 :: s55 :: s56 :: s57 :: s58 :: s59 :: s60 :: s61 :: s62 :: s63 :: s64 :: s65 :: s66 :: s67 :: s68 :: s69 :: s70 :: ([] : List Value)).toArray, defers := [] } w0 := by
  refine wp_region_est (by kernel_rfl) (est2 0 0 (fun _ => False) (fun _ => False)) mxa_C (mxa_F w0 b Aa Ab Ac ca cb cc la lb lc) (est2_dis (fun _ h _ => h)) (est2_range (fun _ h => h.elim) (fun _ h => h.elim)) (by rfl) (by kernel_rfl) (mxa_obs w0.drew b Aa Ab Ac ca cb cc la lb lc hxa hxb hxc (LvS.later hina (below_drew (Below.refl _ _))) (LvS.later hinb (below_drew (Below.refl _ _))) (LvS.later hinc (below_drew (Below.refl _ _))) _ _ rfl rfl rfl) ?_
  intro a w' O hd hs hb hf hf2 ha hsame
  have x0 : a.tmps.getD 0 undef = s0 := hsame 0 (nwB.spec (by kernel_rfl))
  have x1 : a.tmps.getD 1 undef = s1 := hsame 1 (nwB.spec (by kernel_rfl))
  have x2 : a.tmps.getD 2 undef = s2 := hsame 2 (nwB.spec (by kernel_rfl))
  have x3 : a.tmps.getD 3 undef = .pointer (some ⟨b, 0, none⟩) := hsame 3 (nwB.spec (by kernel_rfl))
  have x4 : a.tmps.getD 4 undef = .pointer (some ⟨b + 1, 0, none⟩) := hsame 4 (nwB.spec (by kernel_rfl))
  have x5 : a.tmps.getD 5 undef = .pointer (some ⟨b + 2, 0, none⟩) := hsame 5 (nwB.spec (by kernel_rfl))
  have x6 : a.tmps.getD 6 undef = s6 := hsame 6 (nwB.spec (by kernel_rfl))
  have x9 : a.tmps.getD 9 undef = s9 := hsame 9 (nwB.spec (by kernel_rfl))
  have x10 : a.tmps.getD 10 undef = s10 := hsame 10 (nwB.spec (by kernel_rfl))
  have x11 : a.tmps.getD 11 undef = s11 := hsame 11 (nwB.spec (by kernel_rfl))
  have x12 : a.tmps.getD 12 undef = s12 := hsame 12 (nwB.spec (by kernel_rfl))
  have x13 : a.tmps.getD 13 undef = s13 := hsame 13 (nwB.spec (by kernel_rfl))
  have x14 : a.tmps.getD 14 undef = s14 := hsame 14 (nwB.spec (by kernel_rfl))
  have x15 : a.tmps.getD 15 undef = s15 := hsame 15 (nwB.spec (by kernel_rfl))
  have x16 : a.tmps.getD 16 undef = s16 := hsame 16 (nwB.spec (by kernel_rfl))
  have x17 : a.tmps.getD 17 undef = s17 := hsame 17 (nwB.spec (by kernel_rfl))
  have x18 : a.tmps.getD 18 undef = s18 := hsame 18 (nwB.spec (by kernel_rfl))
  have x19 : a.tmps.getD 19 undef = s19 := hsame 19 (nwB.spec (by kernel_rfl))
  have x20 : a.tmps.getD 20 undef = s20 := hsame 20 (nwB.spec (by kernel_rfl))
  have x21 : a.tmps.getD 21 undef = s21 := hsame 21 (nwB.spec (by kernel_rfl))
  have x22 : a.tmps.getD 22 undef = s22 := hsame 22 (nwB.spec (by kernel_rfl))
  have x23 : a.tmps.getD 23 undef = lvV Aa ca la := (hf 0 _ 23 rfl rfl (by decide)).1
  have x24 : a.tmps.getD 24 undef = lvV Ab cb lb := (hf 1 _ 24 rfl rfl (by decide)).1
  have x25 : a.tmps.getD 25 undef = lvV Ac cc lc := (hf 2 _ 25 rfl rfl (by decide)).1
  have x28 : a.tmps.getD 28 undef = lvV Ac cc lc := (hf 5 _ 28 rfl rfl (by decide)).1
  have x29 : a.tmps.getD 29 undef = lvV Aa ca la := (hf 6 _ 29 rfl rfl (by decide)).1
  have x31 : a.tmps.getD 31 undef = lvV Ab cb lb := (hf 8 _ 31 rfl rfl (by decide)).1
  have x33 : a.tmps.getD 33 undef = s33 := hsame 33 (nwB.spec (by kernel_rfl))
  have x34 : a.tmps.getD 34 undef = s34 := hsame 34 (nwB.spec (by kernel_rfl))
  have x35 : a.tmps.getD 35 undef = s35 := hsame 35 (nwB.spec (by kernel_rfl))
  have x36 : a.tmps.getD 36 undef = s36 := hsame 36 (nwB.spec (by kernel_rfl))
  have x37 : a.tmps.getD 37 undef = s37 := hsame 37 (nwB.spec (by kernel_rfl))
  have x38 : a.tmps.getD 38 undef = s38 := hsame 38 (nwB.spec (by kernel_rfl))
  have x39 : a.tmps.getD 39 undef = s39 := hsame 39 (nwB.spec (by kernel_rfl))
  have x40 : a.tmps.getD 40 undef = s40 := hsame 40 (nwB.spec (by kernel_rfl))
  have x41 : a.tmps.getD 41 undef = s41 := hsame 41 (nwB.spec (by kernel_rfl))
  have x42 : a.tmps.getD 42 undef = s42 := hsame 42 (nwB.spec (by kernel_rfl))
  have x43 : a.tmps.getD 43 undef = s43 := hsame 43 (nwB.spec (by kernel_rfl))
  have x44 : a.tmps.getD 44 undef = s44 := hsame 44 (nwB.spec (by kernel_rfl))
  have x45 : a.tmps.getD 45 undef = s45 := hsame 45 (nwB.spec (by kernel_rfl))
  have x46 : a.tmps.getD 46 undef = s46 := hsame 46 (nwB.spec (by kernel_rfl))
  have x47 : a.tmps.getD 47 undef = s47 := hsame 47 (nwB.spec (by kernel_rfl))
  have x48 : a.tmps.getD 48 undef = s48 := hsame 48 (nwB.spec (by kernel_rfl))
  have x49 : a.tmps.getD 49 undef = s49 := hsame 49 (nwB.spec (by kernel_rfl))
  have x50 : a.tmps.getD 50 undef = s50 := hsame 50 (nwB.spec (by kernel_rfl))
  have x51 : a.tmps.getD 51 undef = s51 := hsame 51 (nwB.spec (by kernel_rfl))
  have x52 : a.tmps.getD 52 undef = s52 := hsame 52 (nwB.spec (by kernel_rfl))
  have x53 : a.tmps.getD 53 undef = s53 := hsame 53 (nwB.spec (by kernel_rfl))
  have x54 : a.tmps.getD 54 undef = s54 := hsame 54 (nwB.spec (by kernel_rfl))
  have x55 : a.tmps.getD 55 undef = s55 := hsame 55 (nwB.spec (by kernel_rfl))
  have x56 : a.tmps.getD 56 undef = s56 := hsame 56 (nwB.spec (by kernel_rfl))
  have x57 : a.tmps.getD 57 undef = s57 := hsame 57 (nwB.spec (by kernel_rfl))
  have x58 : a.tmps.getD 58 undef = s58 := hsame 58 (nwB.spec (by kernel_rfl))
  have x59 : a.tmps.getD 59 undef = s59 := hsame 59 (nwB.spec (by kernel_rfl))
  have x60 : a.tmps.getD 60 undef = s60 := hsame 60 (nwB.spec (by kernel_rfl))
  have x61 : a.tmps.getD 61 undef = s61 := hsame 61 (nwB.spec (by kernel_rfl))
  have x62 : a.tmps.getD 62 undef = s62 := hsame 62 (nwB.spec (by kernel_rfl))
  have x63 : a.tmps.getD 63 undef = s63 := hsame 63 (nwB.spec (by kernel_rfl))
  have x64 : a.tmps.getD 64 undef = s64 := hsame 64 (nwB.spec (by kernel_rfl))
  have x65 : a.tmps.getD 65 undef = s65 := hsame 65 (nwB.spec (by kernel_rfl))
  have x66 : a.tmps.getD 66 undef = s66 := hsame 66 (nwB.spec (by kernel_rfl))
  have x67 : a.tmps.getD 67 undef = s67 := hsame 67 (nwB.spec (by kernel_rfl))
  have x68 : a.tmps.getD 68 undef = s68 := hsame 68 (nwB.spec (by kernel_rfl))
  have x69 : a.tmps.getD 69 undef = s69 := hsame 69 (nwB.spec (by kernel_rfl))
  have x70 : a.tmps.getD 70 undef = s70 := hsame 70 (nwB.spec (by kernel_rfl))
  have hl : a.tmps = (s0 :: s1 :: s2 :: (.pointer (some ⟨b, 0, none⟩) : Value) :: (.pointer (some ⟨b + 1, 0, none⟩) : Value) :: (.pointer (some ⟨b + 2, 0, none⟩) : Value) :: s6 :: (a.tmps.getD 7 undef : Value) :: (a.tmps.getD 8 undef : Value) :: s9 :: s10 :: s11 :: s12 :: s13 :: s14 :: s15 :: s16 :: s17 :: s18 :: s19 :: s20 :: s21 :: s22 :: (lvV Aa ca la : Value) :: (lvV Ab cb lb : Value) :: (lvV Ac cc lc : Value) :: (a.tmps.getD 26 undef : Value) :: (a.tmps.getD 27 undef : Value) :: (lvV Ac cc lc : Value) :: (lvV Aa ca la : Value) :: (a.tmps.getD 30 undef : Value) :: (lvV Ab cb lb : Value) :: (a.tmps.getD 32 undef : Value) :: s33 :: s34 :: s35 :: s36 :: s37 :: s38 :: s39 :: s40 :: s41 :: s42 :: s43 :: s44 :: s45 :: s46 :: s47 :: s48 :: s49 :: s50 :: s51 :: s52 :: s53 :: s54 :: s55 :: s56 :: s57 :: s58 :: s59 :: s60 :: s61 :: s62 :: s63 :: s64 :: s65 :: s66 :: s67 :: s68 :: s69 :: s70 :: ([] : List Value)).toArray := by
    have h := lit a.tmps 71 hs
    have e : ((List.range 71).map (fun i => a.tmps.getD i undef)).toArray = ((a.tmps.getD 0 undef : Value) :: (a.tmps.getD 1 undef : Value) :: (a.tmps.getD 2 undef : Value) :: (a.tmps.getD 3 undef : Value) :: (a.tmps.getD 4 undef : Value) :: (a.tmps.getD 5 undef : Value) :: (a.tmps.getD 6 undef : Value) :: (a.tmps.getD 7 undef : Value) :: (a.tmps.getD 8 undef : Value) :: (a.tmps.getD 9 undef : Value) :: (a.tmps.getD 10 undef : Value) :: (a.tmps.getD 11 undef : Value) :: (a.tmps.getD 12 undef : Value) :: (a.tmps.getD 13 undef : Value) :: (a.tmps.getD 14 undef : Value) :: (a.tmps.getD 15 undef : Value) :: (a.tmps.getD 16 undef : Value) :: (a.tmps.getD 17 undef : Value) :: (a.tmps.getD 18 undef : Value) :: (a.tmps.getD 19 undef : Value) :: (a.tmps.getD 20 undef : Value) :: (a.tmps.getD 21 undef : Value) :: (a.tmps.getD 22 undef : Value) :: (a.tmps.getD 23 undef : Value) :: (a.tmps.getD 24 undef : Value) :: (a.tmps.getD 25 undef : Value) :: (a.tmps.getD 26 undef : Value) :: (a.tmps.getD 27 undef : Value) :: (a.tmps.getD 28 undef : Value) :: (a.tmps.getD 29 undef : Value) :: (a.tmps.getD 30 undef : Value) :: (a.tmps.getD 31 undef : Value) :: (a.tmps.getD 32 undef : Value) :: (a.tmps.getD 33 undef : Value) :: (a.tmps.getD 34 undef : Value) :: (a.tmps.getD 35 undef : Value) :: (a.tmps.getD 36 undef : Value) :: (a.tmps.getD 37 undef : Value) :: (a.tmps.getD 38 undef : Value) :: (a.tmps.getD 39 undef : Value) :: (a.tmps.getD 40 undef : Value) :: (a.tmps.getD 41 undef : Value) :: (a.tmps.getD 42 undef : Value) :: (a.tmps.getD 43 undef : Value) :: (a.tmps.getD 44 undef : Value) :: (a.tmps.getD 45 undef : Value) :: (a.tmps.getD 46 undef : Value) :: (a.tmps.getD 47 undef : Value) :: (a.tmps.getD 48 undef : Value) :: (a.tmps.getD 49 undef : Value) :: (a.tmps.getD 50 undef : Value) :: (a.tmps.getD 51 undef : Value) :: (a.tmps.getD 52 undef : Value) :: (a.tmps.getD 53 undef : Value) :: (a.tmps.getD 54 undef : Value) :: (a.tmps.getD 55 undef : Value) :: (a.tmps.getD 56 undef : Value) :: (a.tmps.getD 57 undef : Value) :: (a.tmps.getD 58 undef : Value) :: (a.tmps.getD 59 undef : Value) :: (a.tmps.getD 60 undef : Value) :: (a.tmps.getD 61 undef : Value) :: (a.tmps.getD 62 undef : Value) :: (a.tmps.getD 63 undef : Value) :: (a.tmps.getD 64 undef : Value) :: (a.tmps.getD 65 undef : Value) :: (a.tmps.getD 66 undef : Value) :: (a.tmps.getD 67 undef : Value) :: (a.tmps.getD 68 undef : Value) :: (a.tmps.getD 69 undef : Value) :: (a.tmps.getD 70 undef : Value) :: ([] : List Value)).toArray := rfl
    rw [e, x0, x1, x2, x3, x4, x5, x6, x9, x10, x11, x12, x13, x14, x15, x16, x17, x18, x19, x20, x21, x22, x23, x24, x25, x28, x29, x31, x33, x34, x35, x36, x37, x38, x39, x40, x41, x42, x43, x44, x45, x46, x47, x48, x49, x50, x51, x52, x53, x54, x55, x56, x57, x58, x59, x60, x61, x62, x63, x64, x65, x66, x67, x68, x69, x70] at h
    exact h
  obtain ⟨tmps, defers⟩ := a
  obtain rfl : defers = [] := hd
  have hl' : tmps = _ := hl
  rw [hl']
  obtain ⟨⟨v12, hv12⟩, ho12⟩ := hf2 12 _ rfl rfl (by decide)
  obtain ⟨⟨v13, hv13⟩, ho13⟩ := hf2 13 _ rfl rfl (by decide)
  have hb' := est2_chg hb
  exact hend w' _ _ _ _ _ _ v12 (O 12) v13 (O 13) ⟨hb'.os, hb'.tape, hb'.output, hb'.size, hb'.block⟩ hv12 ho12 hv13 ho13

def mxb_ops : List Oper := [
  { dst := some 49, op := Go.Op.load 24 (Go.Operand.tmp 3), type := 24, pos := "more.go:20", after := #[], guard := none },
  { dst := some 50, op := Go.Op.load 24 (Go.Operand.tmp 4), type := 24, pos := "more.go:20", after := #[], guard := none },
  { dst := some 51, op := Go.Op.call { callee := Go.Callee.value (Go.Operand.func 17), args := #[Go.Operand.tmp 49, Go.Operand.tmp 50], argTypes := #[24, 24] }, type := 24, pos := "more.go:20", after := #[{ on := 0, ground := Go.Ground.data }, { on := 1, ground := Go.Ground.data }], guard := none },
  { dst := some 52, op := Go.Op.load 24 (Go.Operand.tmp 4), type := 24, pos := "more.go:20", after := #[], guard := none },
  { dst := some 53, op := Go.Op.load 24 (Go.Operand.tmp 3), type := 24, pos := "more.go:20", after := #[], guard := none },
  { dst := some 54, op := Go.Op.call { callee := Go.Callee.value (Go.Operand.func 17), args := #[Go.Operand.tmp 52, Go.Operand.tmp 53], argTypes := #[24, 24] }, type := 24, pos := "more.go:20", after := #[{ on := 3, ground := Go.Ground.data }, { on := 4, ground := Go.Ground.data }, { on := 2, ground := Go.Ground.chain }], guard := none },
  { dst := some 55, op := Go.Op.call { callee := Go.Callee.value (Go.Operand.func 18), args := #[Go.Operand.tmp 51, Go.Operand.tmp 54], argTypes := #[24, 24] }, type := 4, pos := "more.go:20", after := #[{ on := 2, ground := Go.Ground.data }, { on := 5, ground := Go.Ground.data }, { on := 5, ground := Go.Ground.chain }], guard := none },
  { dst := some 56, op := Go.Op.move (Go.Operand.tmp 55), type := 4, pos := "more.go:20", after := #[{ on := 6, ground := Go.Ground.data }, { on := 6, ground := Go.Ground.chain }], guard := none },
  { dst := some 57, op := Go.Op.load 24 (Go.Operand.tmp 3), type := 24, pos := "more.go:20", after := #[{ on := 7, ground := Go.Ground.guard }], guard := some (7, true) },
  { dst := some 58, op := Go.Op.load 24 (Go.Operand.tmp 3), type := 24, pos := "more.go:20", after := #[{ on := 7, ground := Go.Ground.guard }], guard := some (7, true) },
  { dst := some 59, op := Go.Op.call { callee := Go.Callee.value (Go.Operand.func 17), args := #[Go.Operand.tmp 57, Go.Operand.tmp 58], argTypes := #[24, 24] }, type := 24, pos := "more.go:20", after := #[{ on := 8, ground := Go.Ground.data }, { on := 9, ground := Go.Ground.data }, { on := 7, ground := Go.Ground.chain }, { on := 7, ground := Go.Ground.guard }], guard := some (7, true) },
  { dst := some 60, op := Go.Op.load 24 (Go.Operand.tmp 3), type := 24, pos := "more.go:20", after := #[{ on := 7, ground := Go.Ground.guard }], guard := some (7, true) },
  { dst := some 61, op := Go.Op.call { callee := Go.Callee.value (Go.Operand.func 18), args := #[Go.Operand.tmp 59, Go.Operand.tmp 60], argTypes := #[24, 24] }, type := 4, pos := "more.go:20", after := #[{ on := 10, ground := Go.Ground.data }, { on := 11, ground := Go.Ground.data }, { on := 10, ground := Go.Ground.chain }, { on := 7, ground := Go.Ground.guard }], guard := some (7, true) },
  { dst := some 62, op := Go.Op.pick (Go.Operand.tmp 56) (Go.Operand.tmp 61) (Go.Operand.const (Go.Value.bool false)), type := 4, pos := "more.go:20", after := #[{ on := 7, ground := Go.Ground.data }, { on := 12, ground := Go.Ground.data }], guard := none },
  { dst := some 63, op := Go.Op.move (Go.Operand.tmp 62), type := 4, pos := "more.go:20", after := #[{ on := 13, ground := Go.Ground.data }, { on := 12, ground := Go.Ground.chain }], guard := none },
  { dst := some 64, op := Go.Op.load 24 (Go.Operand.tmp 7), type := 24, pos := "more.go:20", after := #[{ on := 14, ground := Go.Ground.guard }], guard := some (14, true) },
  { dst := some 65, op := Go.Op.load 24 (Go.Operand.tmp 8), type := 24, pos := "more.go:20", after := #[{ on := 14, ground := Go.Ground.guard }], guard := some (14, true) },
  { dst := some 66, op := Go.Op.call { callee := Go.Callee.value (Go.Operand.func 18), args := #[Go.Operand.tmp 64, Go.Operand.tmp 65], argTypes := #[24, 24] }, type := 4, pos := "more.go:20", after := #[{ on := 15, ground := Go.Ground.data }, { on := 16, ground := Go.Ground.data }, { on := 14, ground := Go.Ground.chain }, { on := 14, ground := Go.Ground.guard }], guard := some (14, true) },
  { dst := some 67, op := Go.Op.pick (Go.Operand.tmp 63) (Go.Operand.tmp 66) (Go.Operand.const (Go.Value.bool false)), type := 4, pos := "more.go:20", after := #[{ on := 14, ground := Go.Ground.data }, { on := 17, ground := Go.Ground.data }], guard := none },
  { dst := some 68, op := Go.Op.move (Go.Operand.tmp 67), type := 4, pos := "more.go:20", after := #[{ on := 18, ground := Go.Ground.data }, { on := 17, ground := Go.Ground.chain }], guard := none },
  { dst := some 69, op := Go.Op.call { callee := Go.Callee.value (Go.Operand.func 13), args := #[], argTypes := #[] }, type := 4, pos := "more.go:20", after := #[{ on := 19, ground := Go.Ground.chain }, { on := 19, ground := Go.Ground.guard }], guard := some (19, true) },
  { dst := some 70, op := Go.Op.pick (Go.Operand.tmp 68) (Go.Operand.tmp 69) (Go.Operand.const (Go.Value.bool false)), type := 4, pos := "more.go:20", after := #[{ on := 19, ground := Go.Ground.data }, { on := 20, ground := Go.Ground.data }], guard := none },
  { dst := some 6, op := Go.Op.assign (Go.Operand.tmp 70), type := 4, pos := "more.go:20", after := #[{ on := 21, ground := Go.Ground.data }, { on := 20, ground := Go.Ground.chain }, { on := 0, ground := Go.Ground.phase }, { on := 1, ground := Go.Ground.phase }, { on := 2, ground := Go.Ground.phase }, { on := 3, ground := Go.Ground.phase }, { on := 4, ground := Go.Ground.phase }, { on := 5, ground := Go.Ground.phase }, { on := 6, ground := Go.Ground.phase }, { on := 7, ground := Go.Ground.phase }, { on := 8, ground := Go.Ground.phase }, { on := 9, ground := Go.Ground.phase }, { on := 10, ground := Go.Ground.phase }, { on := 11, ground := Go.Ground.phase }, { on := 12, ground := Go.Ground.phase }, { on := 13, ground := Go.Ground.phase }, { on := 14, ground := Go.Ground.phase }, { on := 15, ground := Go.Ground.phase }, { on := 16, ground := Go.Ground.phase }, { on := 17, ground := Go.Ground.phase }, { on := 18, ground := Go.Ground.phase }, { on := 19, ground := Go.Ground.phase }, { on := 20, ground := Go.Ground.phase }, { on := 21, ground := Go.Ground.phase }], guard := none }]
def mxb_F (w0 : World) (b : Nat) (Aa Ab Ac : Option Addr) (ca cb cc : Nat) (la lb lc : Lv) (p q : Nat) (Ax Ay : Option Addr) (cx cy : Nat) (lx ly : Lv) : Nat → (Nat → Value) → Value → World → (Nat → Prop) → Prop := fun rix => match rix with
  | 0 => fun _ v _ _ => v = lvV Aa ca la
  | 1 => fun _ v _ _ => v = lvV Ab cb lb
  | 2 => fun τ v w O => LvV (fun k => k < w0.heap.size) (mxP (la) (lb)) v w O
  | 3 => fun _ v _ _ => v = lvV Ab cb lb
  | 4 => fun _ v _ _ => v = lvV Aa ca la
  | 5 => fun τ v w O => LvV (fun k => k < w0.heap.size) (mxP (lb) (la)) v w O
  | 6 => fun _ v _ _ => v = .bool true
  | 7 => fun _ v _ _ => v = .bool true
  | 8 => fun _ v _ _ => v = lvV Aa ca la
  | 9 => fun _ v _ _ => v = lvV Aa ca la
  | 10 => fun τ v w O => LvV (fun k => k < w0.heap.size) (mxP (la) (la)) v w O
  | 11 => fun _ v _ _ => v = lvV Aa ca la
  | 12 => fun _ v _ _ => v = .bool true
  | 13 => fun _ v _ _ => v = .bool true
  | 14 => fun _ v _ _ => v = .bool true
  | 15 => fun _ v _ _ => v = lvV Ax cx lx
  | 16 => fun _ v _ _ => v = lvV Ay cy ly
  | 17 => fun _ v _ _ => v = .bool true
  | 18 => fun _ v _ _ => v = .bool true
  | 19 => fun _ v _ _ => v = .bool true
  | 20 => fun _ v _ _ => v = .bool true
  | 21 => fun _ v _ _ => v = .bool true
  | 22 => fun _ v _ _ => v = .bool true
  | _ => fun _ _ _ _ => True
def mxb_C : Nat → List Nat := fun rix => match rix with
  | _ => []
theorem mxb_nw3 : nwB mxb_ops.toArray 3 = true := by kernel_rfl
theorem mxb_nw4 : nwB mxb_ops.toArray 4 = true := by kernel_rfl
theorem mxb_nw7 : nwB mxb_ops.toArray 7 = true := by kernel_rfl
theorem mxb_nw8 : nwB mxb_ops.toArray 8 = true := by kernel_rfl
set_option maxRecDepth 100000 in
set_option maxHeartbeats 8000000 in
theorem mxb_obs (w0 : World) (b : Nat) (Aa Ab Ac : Option Addr) (ca cb cc : Nat) (la lb lc : Lv) (p q : Nat) (Ax Ay : Option Addr) (cx cy : Nat) (lx ly : Lv) (hxa : w0.heap[b]? = some (.cells #[.int .i64 la.kind, .int .i64 la.num, .slice Aa la.kids.length ca] 24 (0, 0))) (hxb : w0.heap[b + 1]? = some (.cells #[.int .i64 lb.kind, .int .i64 lb.num, .slice Ab lb.kids.length cb] 24 (0, 0))) (hxc : w0.heap[b + 2]? = some (.cells #[.int .i64 lc.kind, .int .i64 lc.num, .slice Ac lc.kids.length cc] 24 (0, 0))) (hina : LvS w0 (fun k => k < w0.heap.size) Aa ca la) (hinb : LvS w0 (fun k => k < w0.heap.size) Ab cb lb) (hinc : LvS w0 (fun k => k < w0.heap.size) Ac cc lc) (hxx : w0.heap[p]? = some (.cells #[.int .i64 lx.kind, .int .i64 lx.num, .slice Ax lx.kids.length cx] 24 (0, 0))) (hinx : LvS w0 (fun k => k < w0.heap.size) Ax cx lx) (hxy : w0.heap[q]? = some (.cells #[.int .i64 ly.kind, .int .i64 ly.num, .slice Ay ly.kids.length cy] 24 (0, 0))) (hiny : LvS w0 (fun k => k < w0.heap.size) Ay cy ly) (hq1 : eqP (mxP la lb) (mxP lb la) = true) (hq2 : eqP (mxP la la) la = true) (hq3 : eqP lx ly = true) (Q : Exit → Act → World → Prop) (a0 : Act) (hi3 : a0.tmps.getD 3 undef = .pointer (some ⟨b, 0, none⟩)) (hi4 : a0.tmps.getD 4 undef = .pointer (some ⟨b + 1, 0, none⟩)) (hi5 : a0.tmps.getD 5 undef = .pointer (some ⟨b + 2, 0, none⟩)) (hi7 : a0.tmps.getD 7 undef = .pointer (some ⟨p, 0, none⟩)) (hi8 : a0.tmps.getD 8 undef = .pointer (some ⟨q, 0, none⟩)) :
    ObsE Try.prog mxb_ops.toArray Q (est2 0 0 (fun _ => False) (fun _ => False)) mxb_C (mxb_F w0 b Aa Ab Ac ca cb cc la lb lc p q Ax Ay cx cy lx ly) a0 w0 mxb_ops.toArray.toList 0 := by
  have nw3 := mxb_nw3
  have nw4 := mxb_nw4
  have nw7 := mxb_nw7
  have nw8 := mxb_nw8
  refine ⟨?_, ?_, ?_, ?_, ?_, ?_, ?_, ?_, ?_, ?_, ?_, ?_, ?_, ?_, ?_, ?_, ?_, ?_, ?_, ?_, ?_, ?_, ?_, trivial⟩
  · refine ⟨⟨fun τ => stableE_det _, leans_not⟩, ?_⟩
    intro a w O hk
    have e3 : a.eval (.tmp 3) = .pointer (some ⟨b, 0, none⟩) := (hk.init 3 (initialB_of_nw nw3)).trans hi3
    have x3 := hk.world.still hxa (fun ⟨_, h⟩ => h.elim And.right And.right)
    have x4 := hk.world.still hxb (fun ⟨_, h⟩ => h.elim And.right And.right)
    have x5 := hk.world.still hxc (fun ⟨_, h⟩ => h.elim And.right And.right)
    have x7 := hk.world.still hxx (fun ⟨_, h⟩ => h.elim And.right And.right)
    have x8 := hk.world.still hxy (fun ⟨_, h⟩ => h.elim And.right And.right)
    exact obE_loadRow rfl e3 x3 Try.underlying24 rfl (by kernel_rfl) (wanted_none rfl) rfl
  · refine ⟨⟨fun τ => stableE_det _, leans_not⟩, ?_⟩
    intro a w O hk
    have e4 : a.eval (.tmp 4) = .pointer (some ⟨b + 1, 0, none⟩) := (hk.init 4 (initialB_of_nw nw4)).trans hi4
    have x3 := hk.world.still hxa (fun ⟨_, h⟩ => h.elim And.right And.right)
    have x4 := hk.world.still hxb (fun ⟨_, h⟩ => h.elim And.right And.right)
    have x5 := hk.world.still hxc (fun ⟨_, h⟩ => h.elim And.right And.right)
    have x7 := hk.world.still hxx (fun ⟨_, h⟩ => h.elim And.right And.right)
    have x8 := hk.world.still hxy (fun ⟨_, h⟩ => h.elim And.right And.right)
    exact obE_loadRow rfl e4 x4 Try.underlying24 rfl (by kernel_rfl) (wanted_none rfl) rfl
  · refine ⟨⟨fun τ => stableE_lv (fun k hk' => est2_fix hk' (fun h => h) (fun h => h)), leans_not⟩, ?_⟩
    intro a w O hk
    have e49 : a.eval (.tmp 49) = lvV Aa ca la := hk.fact 0 _ 49 rfl rfl rfl rfl
    have e50 : a.eval (.tmp 50) = lvV Ab cb lb := hk.fact 1 _ 50 rfl rfl rfl rfl
    have x3 := hk.world.still hxa (fun ⟨_, h⟩ => h.elim And.right And.right)
    have x4 := hk.world.still hxb (fun ⟨_, h⟩ => h.elim And.right And.right)
    have x5 := hk.world.still hxc (fun ⟨_, h⟩ => h.elim And.right And.right)
    have x7 := hk.world.still hxx (fun ⟨_, h⟩ => h.elim And.right And.right)
    have x8 := hk.world.still hxy (fun ⟨_, h⟩ => h.elim And.right And.right)
    exact obE_lvMax rfl (wanted_none rfl) (show LvV (fun k => k < w0.heap.size) la (a.eval (.tmp 49)) w (fun _ => False) by rw [e49]; exact LvV.old hina (fun k hk' => est2_fix hk' (fun h => h) (fun h => h)) hk.fix) (show LvV (fun k => k < w0.heap.size) lb (a.eval (.tmp 50)) w (fun _ => False) by rw [e50]; exact LvV.old hinb (fun k hk' => est2_fix hk' (fun h => h) (fun h => h)) hk.fix) (fun k h => h.elim) (fun k h => h.elim)
  · refine ⟨⟨fun τ => stableE_det _, leans_not⟩, ?_⟩
    intro a w O hk
    have e4 : a.eval (.tmp 4) = .pointer (some ⟨b + 1, 0, none⟩) := (hk.init 4 (initialB_of_nw nw4)).trans hi4
    have x3 := hk.world.still hxa (fun ⟨_, h⟩ => h.elim And.right And.right)
    have x4 := hk.world.still hxb (fun ⟨_, h⟩ => h.elim And.right And.right)
    have x5 := hk.world.still hxc (fun ⟨_, h⟩ => h.elim And.right And.right)
    have x7 := hk.world.still hxx (fun ⟨_, h⟩ => h.elim And.right And.right)
    have x8 := hk.world.still hxy (fun ⟨_, h⟩ => h.elim And.right And.right)
    exact obE_loadRow rfl e4 x4 Try.underlying24 rfl (by kernel_rfl) (wanted_none rfl) rfl
  · refine ⟨⟨fun τ => stableE_det _, leans_not⟩, ?_⟩
    intro a w O hk
    have e3 : a.eval (.tmp 3) = .pointer (some ⟨b, 0, none⟩) := (hk.init 3 (initialB_of_nw nw3)).trans hi3
    have x3 := hk.world.still hxa (fun ⟨_, h⟩ => h.elim And.right And.right)
    have x4 := hk.world.still hxb (fun ⟨_, h⟩ => h.elim And.right And.right)
    have x5 := hk.world.still hxc (fun ⟨_, h⟩ => h.elim And.right And.right)
    have x7 := hk.world.still hxx (fun ⟨_, h⟩ => h.elim And.right And.right)
    have x8 := hk.world.still hxy (fun ⟨_, h⟩ => h.elim And.right And.right)
    exact obE_loadRow rfl e3 x3 Try.underlying24 rfl (by kernel_rfl) (wanted_none rfl) rfl
  · refine ⟨⟨fun τ => stableE_lv (fun k hk' => est2_fix hk' (fun h => h) (fun h => h)), leans_not⟩, ?_⟩
    intro a w O hk
    have e52 : a.eval (.tmp 52) = lvV Ab cb lb := hk.fact 3 _ 52 rfl rfl rfl rfl
    have e53 : a.eval (.tmp 53) = lvV Aa ca la := hk.fact 4 _ 53 rfl rfl rfl rfl
    have x3 := hk.world.still hxa (fun ⟨_, h⟩ => h.elim And.right And.right)
    have x4 := hk.world.still hxb (fun ⟨_, h⟩ => h.elim And.right And.right)
    have x5 := hk.world.still hxc (fun ⟨_, h⟩ => h.elim And.right And.right)
    have x7 := hk.world.still hxx (fun ⟨_, h⟩ => h.elim And.right And.right)
    have x8 := hk.world.still hxy (fun ⟨_, h⟩ => h.elim And.right And.right)
    exact obE_lvMax rfl (wanted_none rfl) (show LvV (fun k => k < w0.heap.size) lb (a.eval (.tmp 52)) w (fun _ => False) by rw [e52]; exact LvV.old hinb (fun k hk' => est2_fix hk' (fun h => h) (fun h => h)) hk.fix) (show LvV (fun k => k < w0.heap.size) la (a.eval (.tmp 53)) w (fun _ => False) by rw [e53]; exact LvV.old hina (fun k hk' => est2_fix hk' (fun h => h) (fun h => h)) hk.fix) (fun k h => h.elim) (fun k h => h.elim)
  · refine ⟨⟨fun τ => stableE_det _, leans_not⟩, ?_⟩
    intro a w O hk
    have f51 := hk.fact 2 _ 51 rfl rfl rfl rfl
    have g51 := hk.owns 2 rfl rfl
    have f54 := hk.fact 5 _ 54 rfl rfl rfl rfl
    have g54 := hk.owns 5 rfl rfl
    have x3 := hk.world.still hxa (fun ⟨_, h⟩ => h.elim And.right And.right)
    have x4 := hk.world.still hxb (fun ⟨_, h⟩ => h.elim And.right And.right)
    have x5 := hk.world.still hxc (fun ⟨_, h⟩ => h.elim And.right And.right)
    have x7 := hk.world.still hxx (fun ⟨_, h⟩ => h.elim And.right And.right)
    have x8 := hk.world.still hxy (fun ⟨_, h⟩ => h.elim And.right And.right)
    exact obE_lvEqual rfl (wanted_none rfl) (show LvV (fun k => k < w0.heap.size) (mxP (la) (lb)) (a.eval (.tmp 51)) w (O 2) from f51) (show LvV (fun k => k < w0.heap.size) (mxP (lb) (la)) (a.eval (.tmp 54)) w (O 5) from f54) hq1
  · refine ⟨⟨fun τ => stableE_det _, leans_not⟩, ?_⟩
    intro a w O hk
    have e55 : a.eval (.tmp 55) = .bool true := hk.fact 6 _ 55 rfl rfl rfl rfl
    exact toE (ob_move rfl e55 (wanted_none rfl) rfl)
  · refine ⟨⟨fun τ => stableE_det _, leans_not⟩, ?_⟩
    intro a w O hk
    have e3 : a.eval (.tmp 3) = .pointer (some ⟨b, 0, none⟩) := (hk.init 3 (initialB_of_nw nw3)).trans hi3
    have e56 : a.eval (.tmp 56) = .bool true := hk.fact 7 _ 56 rfl rfl rfl rfl
    have x3 := hk.world.still hxa (fun ⟨_, h⟩ => h.elim And.right And.right)
    have x4 := hk.world.still hxb (fun ⟨_, h⟩ => h.elim And.right And.right)
    have x5 := hk.world.still hxc (fun ⟨_, h⟩ => h.elim And.right And.right)
    have x7 := hk.world.still hxx (fun ⟨_, h⟩ => h.elim And.right And.right)
    have x8 := hk.world.still hxy (fun ⟨_, h⟩ => h.elim And.right And.right)
    exact obE_loadRow rfl e3 x3 Try.underlying24 rfl (by kernel_rfl) (wanted_of rfl rfl rfl e56) rfl
  · refine ⟨⟨fun τ => stableE_det _, leans_not⟩, ?_⟩
    intro a w O hk
    have e3 : a.eval (.tmp 3) = .pointer (some ⟨b, 0, none⟩) := (hk.init 3 (initialB_of_nw nw3)).trans hi3
    have e56 : a.eval (.tmp 56) = .bool true := hk.fact 7 _ 56 rfl rfl rfl rfl
    have x3 := hk.world.still hxa (fun ⟨_, h⟩ => h.elim And.right And.right)
    have x4 := hk.world.still hxb (fun ⟨_, h⟩ => h.elim And.right And.right)
    have x5 := hk.world.still hxc (fun ⟨_, h⟩ => h.elim And.right And.right)
    have x7 := hk.world.still hxx (fun ⟨_, h⟩ => h.elim And.right And.right)
    have x8 := hk.world.still hxy (fun ⟨_, h⟩ => h.elim And.right And.right)
    exact obE_loadRow rfl e3 x3 Try.underlying24 rfl (by kernel_rfl) (wanted_of rfl rfl rfl e56) rfl
  · refine ⟨⟨fun τ => stableE_lv (fun k hk' => est2_fix hk' (fun h => h) (fun h => h)), leans_not⟩, ?_⟩
    intro a w O hk
    have e57 : a.eval (.tmp 57) = lvV Aa ca la := hk.fact 8 _ 57 rfl rfl rfl rfl
    have e58 : a.eval (.tmp 58) = lvV Aa ca la := hk.fact 9 _ 58 rfl rfl rfl rfl
    have e56 : a.eval (.tmp 56) = .bool true := hk.fact 7 _ 56 rfl rfl rfl rfl
    have x3 := hk.world.still hxa (fun ⟨_, h⟩ => h.elim And.right And.right)
    have x4 := hk.world.still hxb (fun ⟨_, h⟩ => h.elim And.right And.right)
    have x5 := hk.world.still hxc (fun ⟨_, h⟩ => h.elim And.right And.right)
    have x7 := hk.world.still hxx (fun ⟨_, h⟩ => h.elim And.right And.right)
    have x8 := hk.world.still hxy (fun ⟨_, h⟩ => h.elim And.right And.right)
    exact obE_lvMax rfl (wanted_of rfl rfl rfl e56) (show LvV (fun k => k < w0.heap.size) la (a.eval (.tmp 57)) w (fun _ => False) by rw [e57]; exact LvV.old hina (fun k hk' => est2_fix hk' (fun h => h) (fun h => h)) hk.fix) (show LvV (fun k => k < w0.heap.size) la (a.eval (.tmp 58)) w (fun _ => False) by rw [e58]; exact LvV.old hina (fun k hk' => est2_fix hk' (fun h => h) (fun h => h)) hk.fix) (fun k h => h.elim) (fun k h => h.elim)
  · refine ⟨⟨fun τ => stableE_det _, leans_not⟩, ?_⟩
    intro a w O hk
    have e3 : a.eval (.tmp 3) = .pointer (some ⟨b, 0, none⟩) := (hk.init 3 (initialB_of_nw nw3)).trans hi3
    have e56 : a.eval (.tmp 56) = .bool true := hk.fact 7 _ 56 rfl rfl rfl rfl
    have x3 := hk.world.still hxa (fun ⟨_, h⟩ => h.elim And.right And.right)
    have x4 := hk.world.still hxb (fun ⟨_, h⟩ => h.elim And.right And.right)
    have x5 := hk.world.still hxc (fun ⟨_, h⟩ => h.elim And.right And.right)
    have x7 := hk.world.still hxx (fun ⟨_, h⟩ => h.elim And.right And.right)
    have x8 := hk.world.still hxy (fun ⟨_, h⟩ => h.elim And.right And.right)
    exact obE_loadRow rfl e3 x3 Try.underlying24 rfl (by kernel_rfl) (wanted_of rfl rfl rfl e56) rfl
  · refine ⟨⟨fun τ => stableE_det _, leans_not⟩, ?_⟩
    intro a w O hk
    have f59 := hk.fact 10 _ 59 rfl rfl rfl rfl
    have g59 := hk.owns 10 rfl rfl
    have e60 : a.eval (.tmp 60) = lvV Aa ca la := hk.fact 11 _ 60 rfl rfl rfl rfl
    have e56 : a.eval (.tmp 56) = .bool true := hk.fact 7 _ 56 rfl rfl rfl rfl
    have x3 := hk.world.still hxa (fun ⟨_, h⟩ => h.elim And.right And.right)
    have x4 := hk.world.still hxb (fun ⟨_, h⟩ => h.elim And.right And.right)
    have x5 := hk.world.still hxc (fun ⟨_, h⟩ => h.elim And.right And.right)
    have x7 := hk.world.still hxx (fun ⟨_, h⟩ => h.elim And.right And.right)
    have x8 := hk.world.still hxy (fun ⟨_, h⟩ => h.elim And.right And.right)
    exact obE_lvEqual rfl (wanted_of rfl rfl rfl e56) (show LvV (fun k => k < w0.heap.size) (mxP (la) (la)) (a.eval (.tmp 59)) w (O 10) from f59) (show LvV (fun k => k < w0.heap.size) la (a.eval (.tmp 60)) w (fun _ => False) by rw [e60]; exact LvV.old hina (fun k hk' => est2_fix hk' (fun h => h) (fun h => h)) hk.fix) hq2
  · refine ⟨⟨fun τ => stableE_det _, leans_not⟩, ?_⟩
    intro a w O hk
    have e56 : a.eval (.tmp 56) = .bool true := hk.fact 7 _ 56 rfl rfl rfl rfl
    have e61 : a.eval (.tmp 61) = .bool true := hk.fact 12 _ 61 rfl rfl rfl rfl
    exact toE (ob_pick rfl e56 e61 (wanted_none rfl) rfl)
  · refine ⟨⟨fun τ => stableE_det _, leans_not⟩, ?_⟩
    intro a w O hk
    have e62 : a.eval (.tmp 62) = .bool true := hk.fact 13 _ 62 rfl rfl rfl rfl
    exact toE (ob_move rfl e62 (wanted_none rfl) rfl)
  · refine ⟨⟨fun τ => stableE_det _, leans_not⟩, ?_⟩
    intro a w O hk
    have e7 : a.eval (.tmp 7) = .pointer (some ⟨p, 0, none⟩) := (hk.init 7 (initialB_of_nw nw7)).trans hi7
    have e63 : a.eval (.tmp 63) = .bool true := hk.fact 14 _ 63 rfl rfl rfl rfl
    have x3 := hk.world.still hxa (fun ⟨_, h⟩ => h.elim And.right And.right)
    have x4 := hk.world.still hxb (fun ⟨_, h⟩ => h.elim And.right And.right)
    have x5 := hk.world.still hxc (fun ⟨_, h⟩ => h.elim And.right And.right)
    have x7 := hk.world.still hxx (fun ⟨_, h⟩ => h.elim And.right And.right)
    have x8 := hk.world.still hxy (fun ⟨_, h⟩ => h.elim And.right And.right)
    exact obE_loadRow rfl e7 x7 Try.underlying24 rfl (by kernel_rfl) (wanted_of rfl rfl rfl e63) rfl
  · refine ⟨⟨fun τ => stableE_det _, leans_not⟩, ?_⟩
    intro a w O hk
    have e8 : a.eval (.tmp 8) = .pointer (some ⟨q, 0, none⟩) := (hk.init 8 (initialB_of_nw nw8)).trans hi8
    have e63 : a.eval (.tmp 63) = .bool true := hk.fact 14 _ 63 rfl rfl rfl rfl
    have x3 := hk.world.still hxa (fun ⟨_, h⟩ => h.elim And.right And.right)
    have x4 := hk.world.still hxb (fun ⟨_, h⟩ => h.elim And.right And.right)
    have x5 := hk.world.still hxc (fun ⟨_, h⟩ => h.elim And.right And.right)
    have x7 := hk.world.still hxx (fun ⟨_, h⟩ => h.elim And.right And.right)
    have x8 := hk.world.still hxy (fun ⟨_, h⟩ => h.elim And.right And.right)
    exact obE_loadRow rfl e8 x8 Try.underlying24 rfl (by kernel_rfl) (wanted_of rfl rfl rfl e63) rfl
  · refine ⟨⟨fun τ => stableE_det _, leans_not⟩, ?_⟩
    intro a w O hk
    have e64 : a.eval (.tmp 64) = lvV Ax cx lx := hk.fact 15 _ 64 rfl rfl rfl rfl
    have e65 : a.eval (.tmp 65) = lvV Ay cy ly := hk.fact 16 _ 65 rfl rfl rfl rfl
    have e63 : a.eval (.tmp 63) = .bool true := hk.fact 14 _ 63 rfl rfl rfl rfl
    have x3 := hk.world.still hxa (fun ⟨_, h⟩ => h.elim And.right And.right)
    have x4 := hk.world.still hxb (fun ⟨_, h⟩ => h.elim And.right And.right)
    have x5 := hk.world.still hxc (fun ⟨_, h⟩ => h.elim And.right And.right)
    have x7 := hk.world.still hxx (fun ⟨_, h⟩ => h.elim And.right And.right)
    have x8 := hk.world.still hxy (fun ⟨_, h⟩ => h.elim And.right And.right)
    exact obE_lvEqual rfl (wanted_of rfl rfl rfl e63) (show LvV (fun k => k < w0.heap.size) lx (a.eval (.tmp 64)) w (fun _ => False) by rw [e64]; exact LvV.old hinx (fun k hk' => est2_fix hk' (fun h => h) (fun h => h)) hk.fix) (show LvV (fun k => k < w0.heap.size) ly (a.eval (.tmp 65)) w (fun _ => False) by rw [e65]; exact LvV.old hiny (fun k hk' => est2_fix hk' (fun h => h) (fun h => h)) hk.fix) hq3
  · refine ⟨⟨fun τ => stableE_det _, leans_not⟩, ?_⟩
    intro a w O hk
    have e63 : a.eval (.tmp 63) = .bool true := hk.fact 14 _ 63 rfl rfl rfl rfl
    have e66 : a.eval (.tmp 66) = .bool true := hk.fact 17 _ 66 rfl rfl rfl rfl
    exact toE (ob_pick rfl e63 e66 (wanted_none rfl) rfl)
  · refine ⟨⟨fun τ => stableE_det _, leans_not⟩, ?_⟩
    intro a w O hk
    have e67 : a.eval (.tmp 67) = .bool true := hk.fact 18 _ 67 rfl rfl rfl rfl
    exact toE (ob_move rfl e67 (wanted_none rfl) rfl)
  · refine ⟨⟨fun τ => stableE_det _, leans_not⟩, ?_⟩
    intro a w O hk
    have e68 : a.eval (.tmp 68) = .bool true := hk.fact 19 _ 68 rfl rfl rfl rfl
    have x3 := hk.world.still hxa (fun ⟨_, h⟩ => h.elim And.right And.right)
    have x4 := hk.world.still hxb (fun ⟨_, h⟩ => h.elim And.right And.right)
    have x5 := hk.world.still hxc (fun ⟨_, h⟩ => h.elim And.right And.right)
    have x7 := hk.world.still hxx (fun ⟨_, h⟩ => h.elim And.right And.right)
    have x8 := hk.world.still hxy (fun ⟨_, h⟩ => h.elim And.right And.right)
    exact obE_awake rfl (wanted_of rfl rfl rfl e68)
  · refine ⟨⟨fun τ => stableE_det _, leans_not⟩, ?_⟩
    intro a w O hk
    have e68 : a.eval (.tmp 68) = .bool true := hk.fact 19 _ 68 rfl rfl rfl rfl
    have e69 : a.eval (.tmp 69) = .bool true := hk.fact 20 _ 69 rfl rfl rfl rfl
    exact toE (ob_pick rfl e68 e69 (wanted_none rfl) rfl)
  · refine ⟨⟨fun τ => stableE_det _, leans_not⟩, ?_⟩
    intro a w O hk
    have e70 : a.eval (.tmp 70) = .bool true := hk.fact 21 _ 70 rfl rfl rfl rfl
    exact toE (ob_assign rfl e70 (wanted_none rfl) rfl)
set_option maxRecDepth 100000 in
set_option maxHeartbeats 8000000 in
theorem mxb_region {Q : Exit → Act → World → Prop} {id : Nat} (w0 : World) (b : Nat) (Aa Ab Ac : Option Addr) (ca cb cc : Nat) (la lb lc : Lv) (p q : Nat) (Ax Ay : Option Addr) (cx cy : Nat) (lx ly : Lv) {s0 s1 s2 s6 s9 s10 s11 s12 s13 s14 s15 s16 s17 s18 s19 s20 s21 s22 s23 s24 s25 s26 s27 s28 s29 s30 s31 s32 s33 s34 s35 s36 s37 s38 s39 s40 s41 s42 s43 s44 s45 s46 s47 s48 s49 s50 s51 s52 s53 s54 s55 s56 s57 s58 s59 s60 s61 s62 s63 s64 s65 s66 s67 s68 s69 s70 : Value} (hxa : w0.heap[b]? = some (.cells #[.int .i64 la.kind, .int .i64 la.num, .slice Aa la.kids.length ca] 24 (0, 0))) (hxb : w0.heap[b + 1]? = some (.cells #[.int .i64 lb.kind, .int .i64 lb.num, .slice Ab lb.kids.length cb] 24 (0, 0))) (hxc : w0.heap[b + 2]? = some (.cells #[.int .i64 lc.kind, .int .i64 lc.num, .slice Ac lc.kids.length cc] 24 (0, 0))) (hina : LvS w0 (fun k => k < w0.heap.size) Aa ca la) (hinb : LvS w0 (fun k => k < w0.heap.size) Ab cb lb) (hinc : LvS w0 (fun k => k < w0.heap.size) Ac cc lc) (hxx : w0.heap[p]? = some (.cells #[.int .i64 lx.kind, .int .i64 lx.num, .slice Ax lx.kids.length cx] 24 (0, 0))) (hinx : LvS w0 (fun k => k < w0.heap.size) Ax cx lx) (hxy : w0.heap[q]? = some (.cells #[.int .i64 ly.kind, .int .i64 ly.num, .slice Ay ly.kids.length cy] 24 (0, 0))) (hiny : LvS w0 (fun k => k < w0.heap.size) Ay cy ly) (hq1 : eqP (mxP la lb) (mxP lb la) = true) (hq2 : eqP (mxP la la) la = true) (hq3 : eqP lx ly = true)
    (hend : ∀ (w' : World) (u51 : Value) (u54 : Value) (u59 : Value) (O2 : Nat → Prop) (O5 : Nat → Prop) (O10 : Nat → Prop), Chg (fun k => False ∨ False) w0 w' → (LvV (fun k => k < w0.heap.size) (mxP (la) (lb)) u51 w' O2) → (∀ k, O2 k → k < w'.heap.size ∧ ¬ Fix w0 (est2 0 0 (fun _ => False) (fun _ => False)) k) → (LvV (fun k => k < w0.heap.size) (mxP (lb) (la)) u54 w' O5) → (∀ k, O5 k → k < w'.heap.size ∧ ¬ Fix w0 (est2 0 0 (fun _ => False) (fun _ => False)) k) → (LvV (fun k => k < w0.heap.size) (mxP (la) (la)) u59 w' O10) → (∀ k, O10 k → k < w'.heap.size ∧ ¬ Fix w0 (est2 0 0 (fun _ => False) (fun _ => False)) k) → Q .normal { tmps := (s0 :: s1 :: s2 :: (.pointer (some ⟨b, 0, none⟩) : Value) :: (.pointer (some ⟨b + 1, 0, none⟩) : Value) :: (.pointer (some ⟨b + 2, 0, none⟩) : Value) :: (.bool true : Value) :: (.pointer (some ⟨p, 0, none⟩) : Value) :: (.pointer (some ⟨q, 0, none⟩) : Value) :: s9 :: s10 :: s11 :: s12 :: s13 :: s14 :: s15 :: s16 :: s17 :: s18 :: s19 :: s20 :: s21 :: s22 :: s23 :: s24 :: s25 :: s26 :: s27 :: s28 :: s29 :: s30 :: s31 :: s32 :: s33 :: s34 :: s35 :: s36 :: s37 :: s38 :: s39 :: s40 :: s41 :: s42 :: s43 :: s44 :: s45 :: s46 :: s47 :: s48 :: (lvV Aa ca la : Value) :: (lvV Ab cb lb : Value) :: u51 :: (lvV Ab cb lb : Value) :: (lvV Aa ca la : Value) :: u54 :: (.bool true : Value) :: (.bool true : Value) :: (lvV Aa ca la : Value) :: (lvV Aa ca la : Value) :: u59 :: (lvV Aa ca la : Value) :: (.bool true : Value) :: (.bool true : Value) :: (.bool true : Value) :: (lvV Ax cx lx : Value) :: (lvV Ay cy ly : Value) :: (.bool true : Value) :: (.bool true : Value) :: (.bool true : Value) :: (.bool true : Value) :: (.bool true : Value) :: ([] : List Value)).toArray, defers := [] } w') :
    (Code.region id mxb_ops.toArray true).wp Try.prog Q { tmps := (s0 :: s1 :: s2 :: (.pointer (some ⟨b, 0, none⟩) : Value) :: (.pointer (some ⟨b + 1, 0, none⟩) : Value) :: (.pointer (some ⟨b + 2, 0, none⟩) : Value) :: s6 :: (.pointer (some ⟨p, 0, none⟩) : Value) :: (.pointer (some ⟨q, 0, none⟩) : Value) :: s9 :: s10 :: s11 :: s12 :: s13 :: s14 :: s15 :: s16 :: s17 :: s18 :: s19 :: s20 :: s21 :: s22 :: s23 :: s24 :: s25 :: s26 :: s27 :: s28 :: s29 :: s30 :: s31 :: s32 :: s33 :: s34 :: s35 :: s36 :: s37 :: s38 :: s39 :: s40 :: s41 :: s42 :: s43 :: s44 :: s45 :: s46 :: s47 :: s48 :: s49 :: s50 :: s51 :: s52 :: s53 :: s54 :: s55 :: s56 :: s57 :: s58 :: s59 :: s60 :: s61 :: s62 :: s63 :: s64 :: s65 :: s66 :: s67 :: s68 :: s69 :: s70 :: ([] : List Value)).toArray, defers := [] } w0 := by
  refine wp_region_est (by kernel_rfl) (est2 0 0 (fun _ => False) (fun _ => False)) mxb_C (mxb_F w0 b Aa Ab Ac ca cb cc la lb lc p q Ax Ay cx cy lx ly) (est2_dis (fun _ h _ => h)) (est2_range (fun _ h => h.elim) (fun _ h => h.elim)) (by rfl) (by kernel_rfl) (mxb_obs w0.drew b Aa Ab Ac ca cb cc la lb lc p q Ax Ay cx cy lx ly hxa hxb hxc (LvS.later hina (below_drew (Below.refl _ _))) (LvS.later hinb (below_drew (Below.refl _ _))) (LvS.later hinc (below_drew (Below.refl _ _))) hxx (LvS.later hinx (below_drew (Below.refl _ _))) hxy (LvS.later hiny (below_drew (Below.refl _ _))) hq1 hq2 hq3 _ _ rfl rfl rfl rfl rfl) ?_
  intro a w' O hd hs hb hf hf2 ha hsame
  have x0 : a.tmps.getD 0 undef = s0 := hsame 0 (nwB.spec (by kernel_rfl))
  have x1 : a.tmps.getD 1 undef = s1 := hsame 1 (nwB.spec (by kernel_rfl))
  have x2 : a.tmps.getD 2 undef = s2 := hsame 2 (nwB.spec (by kernel_rfl))
  have x3 : a.tmps.getD 3 undef = .pointer (some ⟨b, 0, none⟩) := hsame 3 (nwB.spec (by kernel_rfl))
  have x4 : a.tmps.getD 4 undef = .pointer (some ⟨b + 1, 0, none⟩) := hsame 4 (nwB.spec (by kernel_rfl))
  have x5 : a.tmps.getD 5 undef = .pointer (some ⟨b + 2, 0, none⟩) := hsame 5 (nwB.spec (by kernel_rfl))
  have x6 : a.tmps.getD 6 undef = .bool true := (hf 22 _ 6 rfl rfl (by decide)).1
  have x7 : a.tmps.getD 7 undef = .pointer (some ⟨p, 0, none⟩) := hsame 7 (nwB.spec (by kernel_rfl))
  have x8 : a.tmps.getD 8 undef = .pointer (some ⟨q, 0, none⟩) := hsame 8 (nwB.spec (by kernel_rfl))
  have x9 : a.tmps.getD 9 undef = s9 := hsame 9 (nwB.spec (by kernel_rfl))
  have x10 : a.tmps.getD 10 undef = s10 := hsame 10 (nwB.spec (by kernel_rfl))
  have x11 : a.tmps.getD 11 undef = s11 := hsame 11 (nwB.spec (by kernel_rfl))
  have x12 : a.tmps.getD 12 undef = s12 := hsame 12 (nwB.spec (by kernel_rfl))
  have x13 : a.tmps.getD 13 undef = s13 := hsame 13 (nwB.spec (by kernel_rfl))
  have x14 : a.tmps.getD 14 undef = s14 := hsame 14 (nwB.spec (by kernel_rfl))
  have x15 : a.tmps.getD 15 undef = s15 := hsame 15 (nwB.spec (by kernel_rfl))
  have x16 : a.tmps.getD 16 undef = s16 := hsame 16 (nwB.spec (by kernel_rfl))
  have x17 : a.tmps.getD 17 undef = s17 := hsame 17 (nwB.spec (by kernel_rfl))
  have x18 : a.tmps.getD 18 undef = s18 := hsame 18 (nwB.spec (by kernel_rfl))
  have x19 : a.tmps.getD 19 undef = s19 := hsame 19 (nwB.spec (by kernel_rfl))
  have x20 : a.tmps.getD 20 undef = s20 := hsame 20 (nwB.spec (by kernel_rfl))
  have x21 : a.tmps.getD 21 undef = s21 := hsame 21 (nwB.spec (by kernel_rfl))
  have x22 : a.tmps.getD 22 undef = s22 := hsame 22 (nwB.spec (by kernel_rfl))
  have x23 : a.tmps.getD 23 undef = s23 := hsame 23 (nwB.spec (by kernel_rfl))
  have x24 : a.tmps.getD 24 undef = s24 := hsame 24 (nwB.spec (by kernel_rfl))
  have x25 : a.tmps.getD 25 undef = s25 := hsame 25 (nwB.spec (by kernel_rfl))
  have x26 : a.tmps.getD 26 undef = s26 := hsame 26 (nwB.spec (by kernel_rfl))
  have x27 : a.tmps.getD 27 undef = s27 := hsame 27 (nwB.spec (by kernel_rfl))
  have x28 : a.tmps.getD 28 undef = s28 := hsame 28 (nwB.spec (by kernel_rfl))
  have x29 : a.tmps.getD 29 undef = s29 := hsame 29 (nwB.spec (by kernel_rfl))
  have x30 : a.tmps.getD 30 undef = s30 := hsame 30 (nwB.spec (by kernel_rfl))
  have x31 : a.tmps.getD 31 undef = s31 := hsame 31 (nwB.spec (by kernel_rfl))
  have x32 : a.tmps.getD 32 undef = s32 := hsame 32 (nwB.spec (by kernel_rfl))
  have x33 : a.tmps.getD 33 undef = s33 := hsame 33 (nwB.spec (by kernel_rfl))
  have x34 : a.tmps.getD 34 undef = s34 := hsame 34 (nwB.spec (by kernel_rfl))
  have x35 : a.tmps.getD 35 undef = s35 := hsame 35 (nwB.spec (by kernel_rfl))
  have x36 : a.tmps.getD 36 undef = s36 := hsame 36 (nwB.spec (by kernel_rfl))
  have x37 : a.tmps.getD 37 undef = s37 := hsame 37 (nwB.spec (by kernel_rfl))
  have x38 : a.tmps.getD 38 undef = s38 := hsame 38 (nwB.spec (by kernel_rfl))
  have x39 : a.tmps.getD 39 undef = s39 := hsame 39 (nwB.spec (by kernel_rfl))
  have x40 : a.tmps.getD 40 undef = s40 := hsame 40 (nwB.spec (by kernel_rfl))
  have x41 : a.tmps.getD 41 undef = s41 := hsame 41 (nwB.spec (by kernel_rfl))
  have x42 : a.tmps.getD 42 undef = s42 := hsame 42 (nwB.spec (by kernel_rfl))
  have x43 : a.tmps.getD 43 undef = s43 := hsame 43 (nwB.spec (by kernel_rfl))
  have x44 : a.tmps.getD 44 undef = s44 := hsame 44 (nwB.spec (by kernel_rfl))
  have x45 : a.tmps.getD 45 undef = s45 := hsame 45 (nwB.spec (by kernel_rfl))
  have x46 : a.tmps.getD 46 undef = s46 := hsame 46 (nwB.spec (by kernel_rfl))
  have x47 : a.tmps.getD 47 undef = s47 := hsame 47 (nwB.spec (by kernel_rfl))
  have x48 : a.tmps.getD 48 undef = s48 := hsame 48 (nwB.spec (by kernel_rfl))
  have x49 : a.tmps.getD 49 undef = lvV Aa ca la := (hf 0 _ 49 rfl rfl (by decide)).1
  have x50 : a.tmps.getD 50 undef = lvV Ab cb lb := (hf 1 _ 50 rfl rfl (by decide)).1
  have x52 : a.tmps.getD 52 undef = lvV Ab cb lb := (hf 3 _ 52 rfl rfl (by decide)).1
  have x53 : a.tmps.getD 53 undef = lvV Aa ca la := (hf 4 _ 53 rfl rfl (by decide)).1
  have x55 : a.tmps.getD 55 undef = .bool true := (hf 6 _ 55 rfl rfl (by decide)).1
  have x56 : a.tmps.getD 56 undef = .bool true := (hf 7 _ 56 rfl rfl (by decide)).1
  have x57 : a.tmps.getD 57 undef = lvV Aa ca la := (hf 8 _ 57 rfl rfl (by decide)).1
  have x58 : a.tmps.getD 58 undef = lvV Aa ca la := (hf 9 _ 58 rfl rfl (by decide)).1
  have x60 : a.tmps.getD 60 undef = lvV Aa ca la := (hf 11 _ 60 rfl rfl (by decide)).1
  have x61 : a.tmps.getD 61 undef = .bool true := (hf 12 _ 61 rfl rfl (by decide)).1
  have x62 : a.tmps.getD 62 undef = .bool true := (hf 13 _ 62 rfl rfl (by decide)).1
  have x63 : a.tmps.getD 63 undef = .bool true := (hf 14 _ 63 rfl rfl (by decide)).1
  have x64 : a.tmps.getD 64 undef = lvV Ax cx lx := (hf 15 _ 64 rfl rfl (by decide)).1
  have x65 : a.tmps.getD 65 undef = lvV Ay cy ly := (hf 16 _ 65 rfl rfl (by decide)).1
  have x66 : a.tmps.getD 66 undef = .bool true := (hf 17 _ 66 rfl rfl (by decide)).1
  have x67 : a.tmps.getD 67 undef = .bool true := (hf 18 _ 67 rfl rfl (by decide)).1
  have x68 : a.tmps.getD 68 undef = .bool true := (hf 19 _ 68 rfl rfl (by decide)).1
  have x69 : a.tmps.getD 69 undef = .bool true := (hf 20 _ 69 rfl rfl (by decide)).1
  have x70 : a.tmps.getD 70 undef = .bool true := (hf 21 _ 70 rfl rfl (by decide)).1
  have hl : a.tmps = (s0 :: s1 :: s2 :: (.pointer (some ⟨b, 0, none⟩) : Value) :: (.pointer (some ⟨b + 1, 0, none⟩) : Value) :: (.pointer (some ⟨b + 2, 0, none⟩) : Value) :: (.bool true : Value) :: (.pointer (some ⟨p, 0, none⟩) : Value) :: (.pointer (some ⟨q, 0, none⟩) : Value) :: s9 :: s10 :: s11 :: s12 :: s13 :: s14 :: s15 :: s16 :: s17 :: s18 :: s19 :: s20 :: s21 :: s22 :: s23 :: s24 :: s25 :: s26 :: s27 :: s28 :: s29 :: s30 :: s31 :: s32 :: s33 :: s34 :: s35 :: s36 :: s37 :: s38 :: s39 :: s40 :: s41 :: s42 :: s43 :: s44 :: s45 :: s46 :: s47 :: s48 :: (lvV Aa ca la : Value) :: (lvV Ab cb lb : Value) :: (a.tmps.getD 51 undef : Value) :: (lvV Ab cb lb : Value) :: (lvV Aa ca la : Value) :: (a.tmps.getD 54 undef : Value) :: (.bool true : Value) :: (.bool true : Value) :: (lvV Aa ca la : Value) :: (lvV Aa ca la : Value) :: (a.tmps.getD 59 undef : Value) :: (lvV Aa ca la : Value) :: (.bool true : Value) :: (.bool true : Value) :: (.bool true : Value) :: (lvV Ax cx lx : Value) :: (lvV Ay cy ly : Value) :: (.bool true : Value) :: (.bool true : Value) :: (.bool true : Value) :: (.bool true : Value) :: (.bool true : Value) :: ([] : List Value)).toArray := by
    have h := lit a.tmps 71 hs
    have e : ((List.range 71).map (fun i => a.tmps.getD i undef)).toArray = ((a.tmps.getD 0 undef : Value) :: (a.tmps.getD 1 undef : Value) :: (a.tmps.getD 2 undef : Value) :: (a.tmps.getD 3 undef : Value) :: (a.tmps.getD 4 undef : Value) :: (a.tmps.getD 5 undef : Value) :: (a.tmps.getD 6 undef : Value) :: (a.tmps.getD 7 undef : Value) :: (a.tmps.getD 8 undef : Value) :: (a.tmps.getD 9 undef : Value) :: (a.tmps.getD 10 undef : Value) :: (a.tmps.getD 11 undef : Value) :: (a.tmps.getD 12 undef : Value) :: (a.tmps.getD 13 undef : Value) :: (a.tmps.getD 14 undef : Value) :: (a.tmps.getD 15 undef : Value) :: (a.tmps.getD 16 undef : Value) :: (a.tmps.getD 17 undef : Value) :: (a.tmps.getD 18 undef : Value) :: (a.tmps.getD 19 undef : Value) :: (a.tmps.getD 20 undef : Value) :: (a.tmps.getD 21 undef : Value) :: (a.tmps.getD 22 undef : Value) :: (a.tmps.getD 23 undef : Value) :: (a.tmps.getD 24 undef : Value) :: (a.tmps.getD 25 undef : Value) :: (a.tmps.getD 26 undef : Value) :: (a.tmps.getD 27 undef : Value) :: (a.tmps.getD 28 undef : Value) :: (a.tmps.getD 29 undef : Value) :: (a.tmps.getD 30 undef : Value) :: (a.tmps.getD 31 undef : Value) :: (a.tmps.getD 32 undef : Value) :: (a.tmps.getD 33 undef : Value) :: (a.tmps.getD 34 undef : Value) :: (a.tmps.getD 35 undef : Value) :: (a.tmps.getD 36 undef : Value) :: (a.tmps.getD 37 undef : Value) :: (a.tmps.getD 38 undef : Value) :: (a.tmps.getD 39 undef : Value) :: (a.tmps.getD 40 undef : Value) :: (a.tmps.getD 41 undef : Value) :: (a.tmps.getD 42 undef : Value) :: (a.tmps.getD 43 undef : Value) :: (a.tmps.getD 44 undef : Value) :: (a.tmps.getD 45 undef : Value) :: (a.tmps.getD 46 undef : Value) :: (a.tmps.getD 47 undef : Value) :: (a.tmps.getD 48 undef : Value) :: (a.tmps.getD 49 undef : Value) :: (a.tmps.getD 50 undef : Value) :: (a.tmps.getD 51 undef : Value) :: (a.tmps.getD 52 undef : Value) :: (a.tmps.getD 53 undef : Value) :: (a.tmps.getD 54 undef : Value) :: (a.tmps.getD 55 undef : Value) :: (a.tmps.getD 56 undef : Value) :: (a.tmps.getD 57 undef : Value) :: (a.tmps.getD 58 undef : Value) :: (a.tmps.getD 59 undef : Value) :: (a.tmps.getD 60 undef : Value) :: (a.tmps.getD 61 undef : Value) :: (a.tmps.getD 62 undef : Value) :: (a.tmps.getD 63 undef : Value) :: (a.tmps.getD 64 undef : Value) :: (a.tmps.getD 65 undef : Value) :: (a.tmps.getD 66 undef : Value) :: (a.tmps.getD 67 undef : Value) :: (a.tmps.getD 68 undef : Value) :: (a.tmps.getD 69 undef : Value) :: (a.tmps.getD 70 undef : Value) :: ([] : List Value)).toArray := rfl
    rw [e, x0, x1, x2, x3, x4, x5, x6, x7, x8, x9, x10, x11, x12, x13, x14, x15, x16, x17, x18, x19, x20, x21, x22, x23, x24, x25, x26, x27, x28, x29, x30, x31, x32, x33, x34, x35, x36, x37, x38, x39, x40, x41, x42, x43, x44, x45, x46, x47, x48, x49, x50, x52, x53, x55, x56, x57, x58, x60, x61, x62, x63, x64, x65, x66, x67, x68, x69, x70] at h
    exact h
  obtain ⟨tmps, defers⟩ := a
  obtain rfl : defers = [] := hd
  have hl' : tmps = _ := hl
  rw [hl']
  have hb' := est2_chg hb
  exact hend w' _ _ _ (O 2) (O 5) (O 10) ⟨hb'.os, hb'.tape, hb'.output, hb'.size, hb'.block⟩ (hf 2 _ 51 rfl rfl (by decide)).1 (hf 2 _ 51 rfl rfl (by decide)).2 (hf 5 _ 54 rfl rfl (by decide)).1 (hf 5 _ 54 rfl rfl (by decide)).2 (hf 10 _ 59 rfl rfl (by decide)).1 (hf 10 _ 59 rfl rfl (by decide)).2

end Go.Proofs.Ytjlhbaohippidaa
