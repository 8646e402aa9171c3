/-
  The regions of the law LevelRises.
-/
import Derived.Test.YtjlhbaohippidaaOpsP
namespace Go.Proofs.Ytjlhbaohippidaa
open Go.RowKit Go.Proofs.YtjlhbaohippidaaW.PrintWords Go.RegionInvYtjlhbaohippidaa Go.RegionEYtjlhbaohippidaa
set_option linter.unusedVariables false

def rsa_ops : List Oper := [
  { dst := some 33, op := Go.Op.move (Go.Operand.tmp 2), type := 3, pos := "more.go:29", after := #[], guard := none },
  { dst := some 34, op := Go.Op.load 24 (Go.Operand.tmp 3), type := 24, pos := "more.go:29", after := #[], guard := none },
  { dst := some 35, op := Go.Op.call { callee := Go.Callee.value (Go.Operand.func 20), args := #[Go.Operand.tmp 33, Go.Operand.tmp 34], argTypes := #[3, 24] }, type := 24, pos := "more.go:29", after := #[{ on := 0, ground := Go.Ground.data }, { on := 1, ground := Go.Ground.data }], guard := none },
  { dst := some 36, op := Go.Op.move (Go.Operand.tmp 2), type := 3, pos := "more.go:29", after := #[], guard := none },
  { dst := some 37, op := Go.Op.load 24 (Go.Operand.tmp 4), type := 24, pos := "more.go:29", after := #[], guard := none },
  { dst := some 38, op := Go.Op.call { callee := Go.Callee.value (Go.Operand.func 20), args := #[Go.Operand.tmp 36, Go.Operand.tmp 37], argTypes := #[3, 24] }, type := 24, pos := "more.go:29", after := #[{ on := 3, ground := Go.Ground.data }, { on := 4, ground := Go.Ground.data }, { on := 2, ground := Go.Ground.chain }], guard := none },
  { dst := some 7, op := Go.Op.alloc 24, type := 0, pos := "more.go:29", after := #[], guard := none },
  { dst := some 8, op := Go.Op.alloc 24, type := 0, pos := "more.go:29", after := #[], guard := none },
  { dst := none, op := Go.Op.store 24 (Go.Operand.tmp 7) (Go.Operand.tmp 35), type := 0, pos := "more.go:29", after := #[{ on := 6, ground := Go.Ground.data }, { on := 2, ground := Go.Ground.data }, { on := 5, ground := Go.Ground.chain }, { on := 0, ground := Go.Ground.phase }, { on := 1, ground := Go.Ground.phase }, { on := 2, ground := Go.Ground.phase }, { on := 3, ground := Go.Ground.textOnly Go.Departure.lateStores }, { on := 4, ground := Go.Ground.textOnly Go.Departure.lateStores }, { on := 5, ground := Go.Ground.textOnly Go.Departure.lateStoresUnsure }, { on := 6, ground := Go.Ground.phase }, { on := 7, ground := Go.Ground.phase }], guard := none },
  { dst := none, op := Go.Op.store 24 (Go.Operand.tmp 8) (Go.Operand.tmp 38), type := 0, pos := "more.go:29", after := #[{ on := 7, ground := Go.Ground.data }, { on := 5, ground := Go.Ground.data }, { on := 8, ground := Go.Ground.chain }, { on := 0, ground := Go.Ground.phase }, { on := 1, ground := Go.Ground.phase }, { on := 2, ground := Go.Ground.phase }, { on := 3, ground := Go.Ground.phase }, { on := 4, ground := Go.Ground.phase }, { on := 5, ground := Go.Ground.phase }, { on := 6, ground := Go.Ground.phase }, { on := 7, ground := Go.Ground.phase }, { on := 8, ground := Go.Ground.phase }], guard := none }]
def rsa_F (w0 : World) (b : Nat) (Aa Ab : Option Addr) (ca cb : Nat) (la lb : Lv) (k : Int) : Nat → (Nat → Value) → Value → World → (Nat → Prop) → Prop := fun rix => match rix with
  | 0 => fun _ v _ _ => v = .int .i64 k
  | 1 => fun _ v _ _ => v = lvV Aa ca la
  | 2 => fun τ v w O => LvV (fun k => k < w0.heap.size) (plP (k) (la)) v w O
  | 3 => fun _ v _ _ => v = .int .i64 k
  | 4 => fun _ v _ _ => v = lvV Ab cb lb
  | 5 => fun τ v w O => LvV (fun k => k < w0.heap.size) (plP (k) (lb)) v w O
  | 6 => fun τ v w O => ∃ p, v = .pointer (some ⟨p, 0, none⟩) ∧ w.heap[p]? = some (.cells #[.int .i64 0, .int .i64 0, .slice none 0 0] 24 (0, 0)) ∧ O p
  | 7 => fun τ v w O => ∃ p, v = .pointer (some ⟨p, 0, none⟩) ∧ w.heap[p]? = some (.cells #[.int .i64 0, .int .i64 0, .slice none 0 0] 24 (0, 0)) ∧ O p
  | 8 => fun τ v w O => ∃ p, τ 7 = .pointer (some ⟨p, 0, none⟩) ∧ LvBox p (fun k => k < w0.heap.size) (plP (k) (la)) w O
  | 9 => fun τ v w O => ∃ p, τ 8 = .pointer (some ⟨p, 0, none⟩) ∧ LvBox p (fun k => k < w0.heap.size) (plP (k) (lb)) w O
  | _ => fun _ _ _ _ => True
def rsa_C : Nat → List Nat := fun rix => match rix with
  | 8 => [6, 2]
  | 9 => [7, 5]
  | _ => []
theorem rsa_nw2 : nwB rsa_ops.toArray 2 = true := by kernel_rfl
theorem rsa_nw3 : nwB rsa_ops.toArray 3 = true := by kernel_rfl
theorem rsa_nw4 : nwB rsa_ops.toArray 4 = true := by kernel_rfl
set_option maxRecDepth 100000 in
set_option maxHeartbeats 8000000 in
theorem rsa_obs (w0 : World) (b : Nat) (Aa Ab : Option Addr) (ca cb : Nat) (la lb : Lv) (k : Int) (hxa : w0.heap[b]? = some (.cells #[.int .i64 la.kind, .int .i64 la.num, .slice Aa la.kids.length ca] 24 (0, 0))) (hina : LvS w0 (fun k => k < w0.heap.size) Aa ca la) (hxb : w0.heap[b + 1]? = some (.cells #[.int .i64 lb.kind, .int .i64 lb.num, .slice Ab lb.kids.length cb] 24 (0, 0))) (hinb : LvS w0 (fun k => k < w0.heap.size) Ab cb lb) (hk1 : 1 ≤ k) (hk2 : k ≤ 1000) (hna : -9223372036854775808 ≤ la.num) (hnb : -9223372036854775808 ≤ lb.num) (Q : Exit → Act → World → Prop) (a0 : Act) (hi2 : a0.tmps.getD 2 undef = .int .i64 k) (hi3 : a0.tmps.getD 3 undef = .pointer (some ⟨b, 0, none⟩)) (hi4 : a0.tmps.getD 4 undef = .pointer (some ⟨b + 1, 0, none⟩)) :
    ObsE Try.prog rsa_ops.toArray Q (est2 0 0 (fun _ => False) (fun _ => False)) rsa_C (rsa_F w0 b Aa Ab ca cb la lb k) a0 w0 rsa_ops.toArray.toList 0 := by
  have nw2 := rsa_nw2
  have nw3 := rsa_nw3
  have nw4 := rsa_nw4
  refine ⟨?_, ?_, ?_, ?_, ?_, ?_, ?_, ?_, ?_, ?_, trivial⟩
  · refine ⟨⟨fun τ => stableE_det _, leans_not⟩, ?_⟩
    intro a w O hk
    have e2 : a.eval (.tmp 2) = .int .i64 k := (hk.init 2 (initialB_of_nw nw2)).trans hi2
    exact toE (ob_move rfl e2 (wanted_none rfl) rfl)
  · refine ⟨⟨fun τ => stableE_det _, leans_not⟩, ?_⟩
    intro a w O hk
    have e3 : a.eval (.tmp 3) = .pointer (some ⟨b, 0, none⟩) := (hk.init 3 (initialB_of_nw nw3)).trans hi3
    have x3 := hk.world.still hxa (fun ⟨_, h⟩ => h.elim And.right And.right)
    have x4 := hk.world.still hxb (fun ⟨_, h⟩ => h.elim And.right And.right)
    exact obE_loadRow rfl e3 x3 Try.underlying24 rfl (by kernel_rfl) (wanted_none rfl) rfl
  · refine ⟨⟨fun τ => stableE_lv (fun k hk' => est2_fix hk' (fun h => h) (fun h => h)), leans_not⟩, ?_⟩
    intro a w O hk
    have e33 : a.eval (.tmp 33) = .int .i64 k := hk.fact 0 _ 33 rfl rfl rfl rfl
    have e34 : a.eval (.tmp 34) = lvV Aa ca la := hk.fact 1 _ 34 rfl rfl rfl rfl
    have x3 := hk.world.still hxa (fun ⟨_, h⟩ => h.elim And.right And.right)
    have x4 := hk.world.still hxb (fun ⟨_, h⟩ => h.elim And.right And.right)
    exact obE_lvPlus rfl (wanted_none rfl) e33 (show LvV (fun k => k < w0.heap.size) la (a.eval (.tmp 34)) w (fun _ => False) by rw [e34]; exact LvV.old hina (fun k hk' => est2_fix hk' (fun h => h) (fun h => h)) hk.fix) (by omega) hna (fun k h => h.elim)
  · refine ⟨⟨fun τ => stableE_det _, leans_not⟩, ?_⟩
    intro a w O hk
    have e2 : a.eval (.tmp 2) = .int .i64 k := (hk.init 2 (initialB_of_nw nw2)).trans hi2
    exact toE (ob_move rfl e2 (wanted_none rfl) rfl)
  · refine ⟨⟨fun τ => stableE_det _, leans_not⟩, ?_⟩
    intro a w O hk
    have e4 : a.eval (.tmp 4) = .pointer (some ⟨b + 1, 0, none⟩) := (hk.init 4 (initialB_of_nw nw4)).trans hi4
    have x3 := hk.world.still hxa (fun ⟨_, h⟩ => h.elim And.right And.right)
    have x4 := hk.world.still hxb (fun ⟨_, h⟩ => h.elim And.right And.right)
    exact obE_loadRow rfl e4 x4 Try.underlying24 rfl (by kernel_rfl) (wanted_none rfl) rfl
  · refine ⟨⟨fun τ => stableE_lv (fun k hk' => est2_fix hk' (fun h => h) (fun h => h)), leans_not⟩, ?_⟩
    intro a w O hk
    have e36 : a.eval (.tmp 36) = .int .i64 k := hk.fact 3 _ 36 rfl rfl rfl rfl
    have e37 : a.eval (.tmp 37) = lvV Ab cb lb := hk.fact 4 _ 37 rfl rfl rfl rfl
    have x3 := hk.world.still hxa (fun ⟨_, h⟩ => h.elim And.right And.right)
    have x4 := hk.world.still hxb (fun ⟨_, h⟩ => h.elim And.right And.right)
    exact obE_lvPlus rfl (wanted_none rfl) e36 (show LvV (fun k => k < w0.heap.size) lb (a.eval (.tmp 37)) w (fun _ => False) by rw [e37]; exact LvV.old hinb (fun k hk' => est2_fix hk' (fun h => h) (fun h => h)) hk.fix) (by omega) hnb (fun k h => h.elim)
  · refine ⟨⟨fun τ => stableE_ex fun p => stableE_and stableE_pure (stableE_block _ _), leans_not⟩, ?_⟩
    intro a w O hk
    have x3 := hk.world.still hxa (fun ⟨_, h⟩ => h.elim And.right And.right)
    have x4 := hk.world.still hxb (fun ⟨_, h⟩ => h.elim And.right And.right)
    exact obE_lvBox (wanted_none rfl) (by unfold execOp; simp only []; go_simp)
  · refine ⟨⟨fun τ => stableE_ex fun p => stableE_and stableE_pure (stableE_block _ _), leans_not⟩, ?_⟩
    intro a w O hk
    have x3 := hk.world.still hxa (fun ⟨_, h⟩ => h.elim And.right And.right)
    have x4 := hk.world.still hxb (fun ⟨_, h⟩ => h.elim And.right And.right)
    exact obE_lvBox (wanted_none rfl) (by unfold execOp; simp only []; go_simp)
  · refine ⟨⟨fun τ => stableE_ex fun p v w w' O h hz hk => ⟨h.1, stableE_lvbox (fun k hk' => est2_fix hk' (fun h => h) (fun h => h)) v w w' O h.2 hz hk⟩, fun τ τ' h => by have e : τ' 7 = τ 7 := h 6 _ 7 rfl rfl rfl; show (fun v w O => ∃ p, τ 7 = _ ∧ LvBox p _ _ w O) = (fun v w O => ∃ p, τ' 7 = _ ∧ LvBox p _ _ w O); rw [e]⟩, ?_⟩
    intro a w O hk
    have f7 := hk.fact 6 _ 7 rfl rfl rfl rfl
    have g7 := hk.owns 6 rfl rfl
    have f35 := hk.fact 2 _ 35 rfl rfl rfl rfl
    have g35 := hk.owns 2 rfl rfl
    have x3 := hk.world.still hxa (fun ⟨_, h⟩ => h.elim And.right And.right)
    have x4 := hk.world.still hxb (fun ⟨_, h⟩ => h.elim And.right And.right)
    exact obE_lvStore (x := .tmp 7) (y := .tmp 35) rfl (wanted_none rfl) rfl (fun p A c e1 e2 d0 d1 d2 f0 f1 f2 => by unfold lvV at e2; unfold execOp; simp only []; rw [e1, e2]; go_simp) f7 (show LvV (fun k => k < w0.heap.size) (plP (k) (la)) (a.eval (.tmp 35)) w (O 2) from f35) (fun k h => .inl ⟨6, by simp [rsa_C], h⟩) (fun k h => .inl ⟨2, by simp [rsa_C], h⟩) (hk.apart 6 2 rfl rfl rfl rfl (by decide)) (fun k h1 h2 => (g7 k h2).2 ((fun k hk' => est2_fix hk' (fun h => h) (fun h => h)) k h1))
  · refine ⟨⟨fun τ => stableE_ex fun p v w w' O h hz hk => ⟨h.1, stableE_lvbox (fun k hk' => est2_fix hk' (fun h => h) (fun h => h)) v w w' O h.2 hz hk⟩, fun τ τ' h => by have e : τ' 8 = τ 8 := h 7 _ 8 rfl rfl rfl; show (fun v w O => ∃ p, τ 8 = _ ∧ LvBox p _ _ w O) = (fun v w O => ∃ p, τ' 8 = _ ∧ LvBox p _ _ w O); rw [e]⟩, ?_⟩
    intro a w O hk
    have f8 := hk.fact 7 _ 8 rfl rfl rfl rfl
    have g8 := hk.owns 7 rfl rfl
    have f38 := hk.fact 5 _ 38 rfl rfl rfl rfl
    have g38 := hk.owns 5 rfl rfl
    have x3 := hk.world.still hxa (fun ⟨_, h⟩ => h.elim And.right And.right)
    have x4 := hk.world.still hxb (fun ⟨_, h⟩ => h.elim And.right And.right)
    exact obE_lvStore (x := .tmp 8) (y := .tmp 38) rfl (wanted_none rfl) rfl (fun p A c e1 e2 d0 d1 d2 f0 f1 f2 => by unfold lvV at e2; unfold execOp; simp only []; rw [e1, e2]; go_simp) f8 (show LvV (fun k => k < w0.heap.size) (plP (k) (lb)) (a.eval (.tmp 38)) w (O 5) from f38) (fun k h => .inl ⟨7, by simp [rsa_C], h⟩) (fun k h => .inl ⟨5, by simp [rsa_C], h⟩) (hk.apart 7 5 rfl rfl rfl rfl (by decide)) (fun k h1 h2 => (g8 k h2).2 ((fun k hk' => est2_fix hk' (fun h => h) (fun h => h)) k h1))
set_option maxRecDepth 100000 in
set_option maxHeartbeats 8000000 in
theorem rsa_region {Q : Exit → Act → World → Prop} {id : Nat} (w0 : World) (b : Nat) (Aa Ab : Option Addr) (ca cb : Nat) (la lb : Lv) (k : Int) {s0 s1 s5 s6 s7 s8 s9 s10 s11 s12 s13 s14 s15 s16 s17 s18 s19 s20 s21 s22 s23 s24 s25 s26 s27 s28 s29 s30 s31 s32 s33 s34 s35 s36 s37 s38 s39 s40 s41 s42 s43 s44 s45 s46 s47 s48 s49 s50 s51 s52 s53 s54 s55 s56 s57 s58 s59 s60 s61 s62 s63 s64 s65 s66 s67 s68 s69 s70 s71 s72 s73 s74 s75 s76 s77 s78 s79 : Value} (hxa : w0.heap[b]? = some (.cells #[.int .i64 la.kind, .int .i64 la.num, .slice Aa la.kids.length ca] 24 (0, 0))) (hina : LvS w0 (fun k => k < w0.heap.size) Aa ca la) (hxb : w0.heap[b + 1]? = some (.cells #[.int .i64 lb.kind, .int .i64 lb.num, .slice Ab lb.kids.length cb] 24 (0, 0))) (hinb : LvS w0 (fun k => k < w0.heap.size) Ab cb lb) (hk1 : 1 ≤ k) (hk2 : k ≤ 1000) (hna : -9223372036854775808 ≤ la.num) (hnb : -9223372036854775808 ≤ lb.num)
    (hend : ∀ (w' : World) (u7 : Value) (u8 : Value) (u35 : Value) (u38 : Value) (v8 : Value) (O8 : Nat → Prop) (v9 : Value) (O9 : Nat → Prop), Chg (fun k => False ∨ False) w0 w' → (∃ p, u7 = .pointer (some ⟨p, 0, none⟩) ∧ LvBox p (fun k => k < w0.heap.size) (plP (k) (la)) w' O8) → (∀ k, O8 k → k < w'.heap.size ∧ ¬ Fix w0 (est2 0 0 (fun _ => False) (fun _ => False)) k) → (∃ p, u8 = .pointer (some ⟨p, 0, none⟩) ∧ LvBox p (fun k => k < w0.heap.size) (plP (k) (lb)) w' O9) → (∀ k, O9 k → k < w'.heap.size ∧ ¬ Fix w0 (est2 0 0 (fun _ => False) (fun _ => False)) k) → Q .normal { tmps := (s0 :: s1 :: (.int .i64 k : Value) :: (.pointer (some ⟨b, 0, none⟩) : Value) :: (.pointer (some ⟨b + 1, 0, none⟩) : Value) :: s5 :: s6 :: u7 :: u8 :: s9 :: s10 :: s11 :: s12 :: s13 :: s14 :: s15 :: s16 :: s17 :: s18 :: s19 :: s20 :: s21 :: s22 :: s23 :: s24 :: s25 :: s26 :: s27 :: s28 :: s29 :: s30 :: s31 :: s32 :: (.int .i64 k : Value) :: (lvV Aa ca la : Value) :: u35 :: (.int .i64 k : Value) :: (lvV Ab cb lb : Value) :: u38 :: s39 :: s40 :: s41 :: s42 :: s43 :: s44 :: s45 :: s46 :: s47 :: s48 :: s49 :: s50 :: s51 :: s52 :: s53 :: s54 :: s55 :: s56 :: s57 :: s58 :: s59 :: s60 :: s61 :: s62 :: s63 :: s64 :: s65 :: s66 :: s67 :: s68 :: s69 :: s70 :: s71 :: s72 :: s73 :: s74 :: s75 :: s76 :: s77 :: s78 :: s79 :: ([] : List Value)).toArray, defers := [] } w') :
    (Code.region id rsa_ops.toArray true).wp Try.prog Q { tmps := (s0 :: s1 :: (.int .i64 k : Value) :: (.pointer (some ⟨b, 0, none⟩) : Value) :: (.pointer (some ⟨b + 1, 0, none⟩) : Value) :: s5 :: s6 :: s7 :: s8 :: s9 :: s10 :: s11 :: s12 :: s13 :: s14 :: s15 :: s16 :: s17 :: s18 :: s19 :: s20 :: s21 :: s22 :: s23 :: s24 :: s25 :: s26 :: s27 :: s28 :: s29 :: s30 :: s31 :: s32 :: s33 :: s34 :: s35 :: s36 :: s37 :: s38 :: s39 :: s40 :: s41 :: s42 :: s43 :: s44 :: s45 :: s46 :: s47 :: s48 :: s49 :: s50 :: s51 :: s52 :: s53 :: s54 :: s55 :: s56 :: s57 :: s58 :: s59 :: s60 :: s61 :: s62 :: s63 :: s64 :: s65 :: s66 :: s67 :: s68 :: s69 :: s70 :: s71 :: s72 :: s73 :: s74 :: s75 :: s76 :: s77 :: s78 :: s79 :: ([] : List Value)).toArray, defers := [] } w0 := by
  refine wp_region_est (by kernel_rfl) (est2 0 0 (fun _ => False) (fun _ => False)) rsa_C (rsa_F w0 b Aa Ab ca cb la lb k) (est2_dis (fun _ h _ => h)) (est2_range (fun _ h => h.elim) (fun _ h => h.elim)) (by rfl) (by kernel_rfl) (rsa_obs w0.drew b Aa Ab ca cb la lb k hxa (LvS.later hina (below_drew (Below.refl _ _))) hxb (LvS.later hinb (below_drew (Below.refl _ _))) hk1 hk2 hna hnb _ _ rfl rfl rfl) ?_
  intro a w' O hd hs hb hf hf2 ha hsame
  have x0 : a.tmps.getD 0 undef = s0 := hsame 0 (nwB.spec (by kernel_rfl))
  have x1 : a.tmps.getD 1 undef = s1 := hsame 1 (nwB.spec (by kernel_rfl))
  have x2 : a.tmps.getD 2 undef = .int .i64 k := hsame 2 (nwB.spec (by kernel_rfl))
  have x3 : a.tmps.getD 3 undef = .pointer (some ⟨b, 0, none⟩) := hsame 3 (nwB.spec (by kernel_rfl))
  have x4 : a.tmps.getD 4 undef = .pointer (some ⟨b + 1, 0, none⟩) := hsame 4 (nwB.spec (by kernel_rfl))
  have x5 : a.tmps.getD 5 undef = s5 := hsame 5 (nwB.spec (by kernel_rfl))
  have x6 : a.tmps.getD 6 undef = s6 := hsame 6 (nwB.spec (by kernel_rfl))
  have x9 : a.tmps.getD 9 undef = s9 := hsame 9 (nwB.spec (by kernel_rfl))
  have x10 : a.tmps.getD 10 undef = s10 := hsame 10 (nwB.spec (by kernel_rfl))
  have x11 : a.tmps.getD 11 undef = s11 := hsame 11 (nwB.spec (by kernel_rfl))
  have x12 : a.tmps.getD 12 undef = s12 := hsame 12 (nwB.spec (by kernel_rfl))
  have x13 : a.tmps.getD 13 undef = s13 := hsame 13 (nwB.spec (by kernel_rfl))
  have x14 : a.tmps.getD 14 undef = s14 := hsame 14 (nwB.spec (by kernel_rfl))
  have x15 : a.tmps.getD 15 undef = s15 := hsame 15 (nwB.spec (by kernel_rfl))
  have x16 : a.tmps.getD 16 undef = s16 := hsame 16 (nwB.spec (by kernel_rfl))
  have x17 : a.tmps.getD 17 undef = s17 := hsame 17 (nwB.spec (by kernel_rfl))
  have x18 : a.tmps.getD 18 undef = s18 := hsame 18 (nwB.spec (by kernel_rfl))
  have x19 : a.tmps.getD 19 undef = s19 := hsame 19 (nwB.spec (by kernel_rfl))
  have x20 : a.tmps.getD 20 undef = s20 := hsame 20 (nwB.spec (by kernel_rfl))
  have x21 : a.tmps.getD 21 undef = s21 := hsame 21 (nwB.spec (by kernel_rfl))
  have x22 : a.tmps.getD 22 undef = s22 := hsame 22 (nwB.spec (by kernel_rfl))
  have x23 : a.tmps.getD 23 undef = s23 := hsame 23 (nwB.spec (by kernel_rfl))
  have x24 : a.tmps.getD 24 undef = s24 := hsame 24 (nwB.spec (by kernel_rfl))
  have x25 : a.tmps.getD 25 undef = s25 := hsame 25 (nwB.spec (by kernel_rfl))
  have x26 : a.tmps.getD 26 undef = s26 := hsame 26 (nwB.spec (by kernel_rfl))
  have x27 : a.tmps.getD 27 undef = s27 := hsame 27 (nwB.spec (by kernel_rfl))
  have x28 : a.tmps.getD 28 undef = s28 := hsame 28 (nwB.spec (by kernel_rfl))
  have x29 : a.tmps.getD 29 undef = s29 := hsame 29 (nwB.spec (by kernel_rfl))
  have x30 : a.tmps.getD 30 undef = s30 := hsame 30 (nwB.spec (by kernel_rfl))
  have x31 : a.tmps.getD 31 undef = s31 := hsame 31 (nwB.spec (by kernel_rfl))
  have x32 : a.tmps.getD 32 undef = s32 := hsame 32 (nwB.spec (by kernel_rfl))
  have x33 : a.tmps.getD 33 undef = .int .i64 k := (hf 0 _ 33 rfl rfl (by decide)).1
  have x34 : a.tmps.getD 34 undef = lvV Aa ca la := (hf 1 _ 34 rfl rfl (by decide)).1
  have x36 : a.tmps.getD 36 undef = .int .i64 k := (hf 3 _ 36 rfl rfl (by decide)).1
  have x37 : a.tmps.getD 37 undef = lvV Ab cb lb := (hf 4 _ 37 rfl rfl (by decide)).1
  have x39 : a.tmps.getD 39 undef = s39 := hsame 39 (nwB.spec (by kernel_rfl))
  have x40 : a.tmps.getD 40 undef = s40 := hsame 40 (nwB.spec (by kernel_rfl))
  have x41 : a.tmps.getD 41 undef = s41 := hsame 41 (nwB.spec (by kernel_rfl))
  have x42 : a.tmps.getD 42 undef = s42 := hsame 42 (nwB.spec (by kernel_rfl))
  have x43 : a.tmps.getD 43 undef = s43 := hsame 43 (nwB.spec (by kernel_rfl))
  have x44 : a.tmps.getD 44 undef = s44 := hsame 44 (nwB.spec (by kernel_rfl))
  have x45 : a.tmps.getD 45 undef = s45 := hsame 45 (nwB.spec (by kernel_rfl))
  have x46 : a.tmps.getD 46 undef = s46 := hsame 46 (nwB.spec (by kernel_rfl))
  have x47 : a.tmps.getD 47 undef = s47 := hsame 47 (nwB.spec (by kernel_rfl))
  have x48 : a.tmps.getD 48 undef = s48 := hsame 48 (nwB.spec (by kernel_rfl))
  have x49 : a.tmps.getD 49 undef = s49 := hsame 49 (nwB.spec (by kernel_rfl))
  have x50 : a.tmps.getD 50 undef = s50 := hsame 50 (nwB.spec (by kernel_rfl))
  have x51 : a.tmps.getD 51 undef = s51 := hsame 51 (nwB.spec (by kernel_rfl))
  have x52 : a.tmps.getD 52 undef = s52 := hsame 52 (nwB.spec (by kernel_rfl))
  have x53 : a.tmps.getD 53 undef = s53 := hsame 53 (nwB.spec (by kernel_rfl))
  have x54 : a.tmps.getD 54 undef = s54 := hsame 54 (nwB.spec (by kernel_rfl))
  have x55 : a.tmps.getD 55 undef = s55 := hsame 55 (nwB.spec (by kernel_rfl))
  have x56 : a.tmps.getD 56 undef = s56 := hsame 56 (nwB.spec (by kernel_rfl))
  have x57 : a.tmps.getD 57 undef = s57 := hsame 57 (nwB.spec (by kernel_rfl))
  have x58 : a.tmps.getD 58 undef = s58 := hsame 58 (nwB.spec (by kernel_rfl))
  have x59 : a.tmps.getD 59 undef = s59 := hsame 59 (nwB.spec (by kernel_rfl))
  have x60 : a.tmps.getD 60 undef = s60 := hsame 60 (nwB.spec (by kernel_rfl))
  have x61 : a.tmps.getD 61 undef = s61 := hsame 61 (nwB.spec (by kernel_rfl))
  have x62 : a.tmps.getD 62 undef = s62 := hsame 62 (nwB.spec (by kernel_rfl))
  have x63 : a.tmps.getD 63 undef = s63 := hsame 63 (nwB.spec (by kernel_rfl))
  have x64 : a.tmps.getD 64 undef = s64 := hsame 64 (nwB.spec (by kernel_rfl))
  have x65 : a.tmps.getD 65 undef = s65 := hsame 65 (nwB.spec (by kernel_rfl))
  have x66 : a.tmps.getD 66 undef = s66 := hsame 66 (nwB.spec (by kernel_rfl))
  have x67 : a.tmps.getD 67 undef = s67 := hsame 67 (nwB.spec (by kernel_rfl))
  have x68 : a.tmps.getD 68 undef = s68 := hsame 68 (nwB.spec (by kernel_rfl))
  have x69 : a.tmps.getD 69 undef = s69 := hsame 69 (nwB.spec (by kernel_rfl))
  have x70 : a.tmps.getD 70 undef = s70 := hsame 70 (nwB.spec (by kernel_rfl))
  have x71 : a.tmps.getD 71 undef = s71 := hsame 71 (nwB.spec (by kernel_rfl))
  have x72 : a.tmps.getD 72 undef = s72 := hsame 72 (nwB.spec (by kernel_rfl))
  have x73 : a.tmps.getD 73 undef = s73 := hsame 73 (nwB.spec (by kernel_rfl))
  have x74 : a.tmps.getD 74 undef = s74 := hsame 74 (nwB.spec (by kernel_rfl))
  have x75 : a.tmps.getD 75 undef = s75 := hsame 75 (nwB.spec (by kernel_rfl))
  have x76 : a.tmps.getD 76 undef = s76 := hsame 76 (nwB.spec (by kernel_rfl))
  have x77 : a.tmps.getD 77 undef = s77 := hsame 77 (nwB.spec (by kernel_rfl))
  have x78 : a.tmps.getD 78 undef = s78 := hsame 78 (nwB.spec (by kernel_rfl))
  have x79 : a.tmps.getD 79 undef = s79 := hsame 79 (nwB.spec (by kernel_rfl))
  have hl : a.tmps = (s0 :: s1 :: (.int .i64 k : Value) :: (.pointer (some ⟨b, 0, none⟩) : Value) :: (.pointer (some ⟨b + 1, 0, none⟩) : Value) :: s5 :: s6 :: (a.tmps.getD 7 undef : Value) :: (a.tmps.getD 8 undef : Value) :: s9 :: s10 :: s11 :: s12 :: s13 :: s14 :: s15 :: s16 :: s17 :: s18 :: s19 :: s20 :: s21 :: s22 :: s23 :: s24 :: s25 :: s26 :: s27 :: s28 :: s29 :: s30 :: s31 :: s32 :: (.int .i64 k : Value) :: (lvV Aa ca la : Value) :: (a.tmps.getD 35 undef : Value) :: (.int .i64 k : Value) :: (lvV Ab cb lb : Value) :: (a.tmps.getD 38 undef : Value) :: s39 :: s40 :: s41 :: s42 :: s43 :: s44 :: s45 :: s46 :: s47 :: s48 :: s49 :: s50 :: s51 :: s52 :: s53 :: s54 :: s55 :: s56 :: s57 :: s58 :: s59 :: s60 :: s61 :: s62 :: s63 :: s64 :: s65 :: s66 :: s67 :: s68 :: s69 :: s70 :: s71 :: s72 :: s73 :: s74 :: s75 :: s76 :: s77 :: s78 :: s79 :: ([] : List Value)).toArray := by
    have h := lit a.tmps 80 hs
    have e : ((List.range 80).map (fun i => a.tmps.getD i undef)).toArray = ((a.tmps.getD 0 undef : Value) :: (a.tmps.getD 1 undef : Value) :: (a.tmps.getD 2 undef : Value) :: (a.tmps.getD 3 undef : Value) :: (a.tmps.getD 4 undef : Value) :: (a.tmps.getD 5 undef : Value) :: (a.tmps.getD 6 undef : Value) :: (a.tmps.getD 7 undef : Value) :: (a.tmps.getD 8 undef : Value) :: (a.tmps.getD 9 undef : Value) :: (a.tmps.getD 10 undef : Value) :: (a.tmps.getD 11 undef : Value) :: (a.tmps.getD 12 undef : Value) :: (a.tmps.getD 13 undef : Value) :: (a.tmps.getD 14 undef : Value) :: (a.tmps.getD 15 undef : Value) :: (a.tmps.getD 16 undef : Value) :: (a.tmps.getD 17 undef : Value) :: (a.tmps.getD 18 undef : Value) :: (a.tmps.getD 19 undef : Value) :: (a.tmps.getD 20 undef : Value) :: (a.tmps.getD 21 undef : Value) :: (a.tmps.getD 22 undef : Value) :: (a.tmps.getD 23 undef : Value) :: (a.tmps.getD 24 undef : Value) :: (a.tmps.getD 25 undef : Value) :: (a.tmps.getD 26 undef : Value) :: (a.tmps.getD 27 undef : Value) :: (a.tmps.getD 28 undef : Value) :: (a.tmps.getD 29 undef : Value) :: (a.tmps.getD 30 undef : Value) :: (a.tmps.getD 31 undef : Value) :: (a.tmps.getD 32 undef : Value) :: (a.tmps.getD 33 undef : Value) :: (a.tmps.getD 34 undef : Value) :: (a.tmps.getD 35 undef : Value) :: (a.tmps.getD 36 undef : Value) :: (a.tmps.getD 37 undef : Value) :: (a.tmps.getD 38 undef : Value) :: (a.tmps.getD 39 undef : Value) :: (a.tmps.getD 40 undef : Value) :: (a.tmps.getD 41 undef : Value) :: (a.tmps.getD 42 undef : Value) :: (a.tmps.getD 43 undef : Value) :: (a.tmps.getD 44 undef : Value) :: (a.tmps.getD 45 undef : Value) :: (a.tmps.getD 46 undef : Value) :: (a.tmps.getD 47 undef : Value) :: (a.tmps.getD 48 undef : Value) :: (a.tmps.getD 49 undef : Value) :: (a.tmps.getD 50 undef : Value) :: (a.tmps.getD 51 undef : Value) :: (a.tmps.getD 52 undef : Value) :: (a.tmps.getD 53 undef : Value) :: (a.tmps.getD 54 undef : Value) :: (a.tmps.getD 55 undef : Value) :: (a.tmps.getD 56 undef : Value) :: (a.tmps.getD 57 undef : Value) :: (a.tmps.getD 58 undef : Value) :: (a.tmps.getD 59 undef : Value) :: (a.tmps.getD 60 undef : Value) :: (a.tmps.getD 61 undef : Value) :: (a.tmps.getD 62 undef : Value) :: (a.tmps.getD 63 undef : Value) :: (a.tmps.getD 64 undef : Value) :: (a.tmps.getD 65 undef : Value) :: (a.tmps.getD 66 undef : Value) :: (a.tmps.getD 67 undef : Value) :: (a.tmps.getD 68 undef : Value) :: (a.tmps.getD 69 undef : Value) :: (a.tmps.getD 70 undef : Value) :: (a.tmps.getD 71 undef : Value) :: (a.tmps.getD 72 undef : Value) :: (a.tmps.getD 73 undef : Value) :: (a.tmps.getD 74 undef : Value) :: (a.tmps.getD 75 undef : Value) :: (a.tmps.getD 76 undef : Value) :: (a.tmps.getD 77 undef : Value) :: (a.tmps.getD 78 undef : Value) :: (a.tmps.getD 79 undef : Value) :: ([] : List Value)).toArray := rfl
    rw [e, x0, x1, x2, x3, x4, x5, x6, x9, x10, x11, x12, x13, x14, x15, x16, x17, x18, x19, x20, x21, x22, x23, x24, x25, x26, x27, x28, x29, x30, x31, x32, x33, x34, x36, x37, x39, x40, x41, x42, x43, x44, x45, x46, x47, x48, x49, x50, x51, x52, x53, x54, x55, x56, x57, x58, x59, x60, x61, x62, x63, x64, x65, x66, x67, x68, x69, x70, x71, x72, x73, x74, x75, x76, x77, x78, x79] at h
    exact h
  obtain ⟨tmps, defers⟩ := a
  obtain rfl : defers = [] := hd
  have hl' : tmps = _ := hl
  rw [hl']
  obtain ⟨⟨v8, hv8⟩, ho8⟩ := hf2 8 _ rfl rfl (by decide)
  obtain ⟨⟨v9, hv9⟩, ho9⟩ := hf2 9 _ rfl rfl (by decide)
  have hb' := est2_chg hb
  exact hend w' _ _ _ _ v8 (O 8) v9 (O 9) ⟨hb'.os, hb'.tape, hb'.output, hb'.size, hb'.block⟩ hv8 ho8 hv9 ho9

def rsb_ops : List Oper := [
  { dst := some 48, op := Go.Op.load 24 (Go.Operand.tmp 3), type := 24, pos := "more.go:33", after := #[], guard := none },
  { dst := some 49, op := Go.Op.load 24 (Go.Operand.tmp 7), type := 24, pos := "more.go:33", after := #[], guard := none },
  { dst := some 50, op := Go.Op.call { callee := Go.Callee.value (Go.Operand.func 21), args := #[Go.Operand.tmp 48, Go.Operand.tmp 49], argTypes := #[24, 24] }, type := 4, pos := "more.go:33", after := #[{ on := 0, ground := Go.Ground.data }, { on := 1, ground := Go.Ground.data }], guard := none },
  { dst := some 51, op := Go.Op.move (Go.Operand.tmp 50), type := 4, pos := "more.go:33", after := #[{ on := 2, ground := Go.Ground.data }, { on := 2, ground := Go.Ground.chain }], guard := none },
  { dst := some 52, op := Go.Op.load 24 (Go.Operand.tmp 7), type := 24, pos := "more.go:33", after := #[{ on := 3, ground := Go.Ground.guard }], guard := some (3, true) },
  { dst := some 53, op := Go.Op.load 24 (Go.Operand.tmp 3), type := 24, pos := "more.go:33", after := #[{ on := 3, ground := Go.Ground.guard }], guard := some (3, true) },
  { dst := some 54, op := Go.Op.call { callee := Go.Callee.value (Go.Operand.func 21), args := #[Go.Operand.tmp 52, Go.Operand.tmp 53], argTypes := #[24, 24] }, type := 4, pos := "more.go:33", after := #[{ on := 4, ground := Go.Ground.data }, { on := 5, ground := Go.Ground.data }, { on := 3, ground := Go.Ground.chain }, { on := 3, ground := Go.Ground.guard }], guard := some (3, true) },
  { dst := some 55, op := Go.Op.unOp Go.UnOp.not 4 (Go.Operand.tmp 54), type := 4, pos := "more.go:33", after := #[{ on := 6, ground := Go.Ground.data }, { on := 3, ground := Go.Ground.guard }], guard := some (3, true) },
  { dst := some 56, op := Go.Op.pick (Go.Operand.tmp 51) (Go.Operand.tmp 55) (Go.Operand.const (Go.Value.bool false)), type := 4, pos := "more.go:33", after := #[{ on := 3, ground := Go.Ground.data }, { on := 7, ground := Go.Ground.data }], guard := none },
  { dst := some 57, op := Go.Op.move (Go.Operand.tmp 56), type := 4, pos := "more.go:33", after := #[{ on := 8, ground := Go.Ground.data }, { on := 6, ground := Go.Ground.chain }], guard := none },
  { dst := some 58, op := Go.Op.load 24 (Go.Operand.tmp 3), type := 24, pos := "more.go:33", after := #[{ on := 9, ground := Go.Ground.guard }], guard := some (9, true) },
  { dst := some 59, op := Go.Op.load 24 (Go.Operand.tmp 4), type := 24, pos := "more.go:33", after := #[{ on := 9, ground := Go.Ground.guard }], guard := some (9, true) },
  { dst := some 60, op := Go.Op.call { callee := Go.Callee.value (Go.Operand.func 21), args := #[Go.Operand.tmp 58, Go.Operand.tmp 59], argTypes := #[24, 24] }, type := 4, pos := "more.go:33", after := #[{ on := 10, ground := Go.Ground.data }, { on := 11, ground := Go.Ground.data }, { on := 9, ground := Go.Ground.chain }, { on := 9, ground := Go.Ground.guard }], guard := some (9, true) },
  { dst := some 61, op := Go.Op.load 24 (Go.Operand.tmp 7), type := 24, pos := "more.go:33", after := #[{ on := 9, ground := Go.Ground.guard }], guard := some (9, true) },
  { dst := some 62, op := Go.Op.load 24 (Go.Operand.tmp 8), type := 24, pos := "more.go:33", after := #[{ on := 9, ground := Go.Ground.guard }], guard := some (9, true) },
  { dst := some 63, op := Go.Op.call { callee := Go.Callee.value (Go.Operand.func 21), args := #[Go.Operand.tmp 61, Go.Operand.tmp 62], argTypes := #[24, 24] }, type := 4, pos := "more.go:33", after := #[{ on := 13, ground := Go.Ground.data }, { on := 14, ground := Go.Ground.data }, { on := 12, ground := Go.Ground.chain }, { on := 9, ground := Go.Ground.guard }], guard := some (9, true) },
  { dst := some 64, op := Go.Op.binOp Go.BinOp.eql 4 (Go.Operand.tmp 60) (Go.Operand.tmp 63) 4, type := 4, pos := "more.go:33", after := #[{ on := 12, ground := Go.Ground.data }, { on := 15, ground := Go.Ground.data }, { on := 9, ground := Go.Ground.guard }], guard := some (9, true) },
  { dst := some 65, op := Go.Op.pick (Go.Operand.tmp 57) (Go.Operand.tmp 64) (Go.Operand.const (Go.Value.bool false)), type := 4, pos := "more.go:33", after := #[{ on := 9, ground := Go.Ground.data }, { on := 16, ground := Go.Ground.data }], guard := none },
  { dst := some 66, op := Go.Op.move (Go.Operand.tmp 65), type := 4, pos := "more.go:33", after := #[{ on := 17, ground := Go.Ground.data }, { on := 15, ground := Go.Ground.chain }], guard := none },
  { dst := some 67, op := Go.Op.move (Go.Operand.tmp 2), type := 3, pos := "more.go:33", after := #[{ on := 18, ground := Go.Ground.guard }], guard := some (18, true) },
  { dst := some 68, op := Go.Op.load 24 (Go.Operand.tmp 3), type := 24, pos := "more.go:33", after := #[{ on := 18, ground := Go.Ground.guard }], guard := some (18, true) },
  { dst := some 69, op := Go.Op.call { callee := Go.Callee.value (Go.Operand.func 20), args := #[Go.Operand.tmp 67, Go.Operand.tmp 68], argTypes := #[3, 24] }, type := 24, pos := "more.go:33", after := #[{ on := 19, ground := Go.Ground.data }, { on := 20, ground := Go.Ground.data }, { on := 18, ground := Go.Ground.chain }, { on := 18, ground := Go.Ground.guard }], guard := some (18, true) },
  { dst := some 70, op := Go.Op.call { callee := Go.Callee.value (Go.Operand.func 20), args := #[Go.Operand.const (Go.Value.int Go.IntKind.i64 1), Go.Operand.tmp 69], argTypes := #[3, 24] }, type := 24, pos := "more.go:33", after := #[{ on := 21, ground := Go.Ground.data }, { on := 21, ground := Go.Ground.chain }, { on := 18, ground := Go.Ground.guard }], guard := some (18, true) },
  { dst := some 71, op := Go.Op.move (Go.Operand.tmp 2), type := 3, pos := "more.go:33", after := #[{ on := 18, ground := Go.Ground.guard }], guard := some (18, true) },
  { dst := some 72, op := Go.Op.binOp Go.BinOp.add 3 (Go.Operand.tmp 71) (Go.Operand.const (Go.Value.int Go.IntKind.i64 1)) 3, type := 3, pos := "more.go:33", after := #[{ on := 23, ground := Go.Ground.data }, { on := 18, ground := Go.Ground.guard }], guard := some (18, true) },
  { dst := some 73, op := Go.Op.load 24 (Go.Operand.tmp 3), type := 24, pos := "more.go:33", after := #[{ on := 18, ground := Go.Ground.guard }], guard := some (18, true) },
  { dst := some 74, op := Go.Op.call { callee := Go.Callee.value (Go.Operand.func 20), args := #[Go.Operand.tmp 72, Go.Operand.tmp 73], argTypes := #[3, 24] }, type := 24, pos := "more.go:33", after := #[{ on := 24, ground := Go.Ground.data }, { on := 25, ground := Go.Ground.data }, { on := 22, ground := Go.Ground.chain }, { on := 18, ground := Go.Ground.guard }], guard := some (18, true) },
  { dst := some 75, op := Go.Op.call { callee := Go.Callee.value (Go.Operand.func 18), args := #[Go.Operand.tmp 70, Go.Operand.tmp 74], argTypes := #[24, 24] }, type := 4, pos := "more.go:33", after := #[{ on := 22, ground := Go.Ground.data }, { on := 26, ground := Go.Ground.data }, { on := 26, ground := Go.Ground.chain }, { on := 18, ground := Go.Ground.guard }], guard := some (18, true) },
  { dst := some 76, op := Go.Op.pick (Go.Operand.tmp 66) (Go.Operand.tmp 75) (Go.Operand.const (Go.Value.bool false)), type := 4, pos := "more.go:33", after := #[{ on := 18, ground := Go.Ground.data }, { on := 27, ground := Go.Ground.data }], guard := none },
  { dst := some 77, op := Go.Op.move (Go.Operand.tmp 76), type := 4, pos := "more.go:33", after := #[{ on := 28, ground := Go.Ground.data }, { on := 27, ground := Go.Ground.chain }], guard := none },
  { dst := some 78, op := Go.Op.call { callee := Go.Callee.value (Go.Operand.func 13), args := #[], argTypes := #[] }, type := 4, pos := "more.go:33", after := #[{ on := 29, ground := Go.Ground.chain }, { on := 29, ground := Go.Ground.guard }], guard := some (29, true) },
  { dst := some 79, op := Go.Op.pick (Go.Operand.tmp 77) (Go.Operand.tmp 78) (Go.Operand.const (Go.Value.bool false)), type := 4, pos := "more.go:33", after := #[{ on := 29, ground := Go.Ground.data }, { on := 30, ground := Go.Ground.data }], guard := none },
  { dst := some 6, op := Go.Op.assign (Go.Operand.tmp 79), type := 4, pos := "more.go:33", after := #[{ on := 31, ground := Go.Ground.data }, { on := 30, ground := Go.Ground.chain }, { on := 0, ground := Go.Ground.phase }, { on := 1, ground := Go.Ground.phase }, { on := 2, ground := Go.Ground.phase }, { on := 3, ground := Go.Ground.phase }, { on := 4, ground := Go.Ground.phase }, { on := 5, ground := Go.Ground.phase }, { on := 6, ground := Go.Ground.phase }, { on := 7, ground := Go.Ground.phase }, { on := 8, ground := Go.Ground.phase }, { on := 9, ground := Go.Ground.phase }, { on := 10, ground := Go.Ground.phase }, { on := 11, ground := Go.Ground.phase }, { on := 12, ground := Go.Ground.phase }, { on := 13, ground := Go.Ground.phase }, { on := 14, ground := Go.Ground.phase }, { on := 15, ground := Go.Ground.phase }, { on := 16, ground := Go.Ground.phase }, { on := 17, ground := Go.Ground.phase }, { on := 18, ground := Go.Ground.phase }, { on := 19, ground := Go.Ground.phase }, { on := 20, ground := Go.Ground.phase }, { on := 21, ground := Go.Ground.phase }, { on := 22, ground := Go.Ground.phase }, { on := 23, ground := Go.Ground.phase }, { on := 24, ground := Go.Ground.phase }, { on := 25, ground := Go.Ground.phase }, { on := 26, ground := Go.Ground.phase }, { on := 27, ground := Go.Ground.phase }, { on := 28, ground := Go.Ground.phase }, { on := 29, ground := Go.Ground.phase }, { on := 30, ground := Go.Ground.phase }, { on := 31, ground := Go.Ground.phase }], guard := none }]
def rsb_F (w0 : World) (b : Nat) (Aa Ab : Option Addr) (ca cb : Nat) (la lb : Lv) (k : Int) (p q : Nat) (Ax Ay : Option Addr) (cx cy : Nat) (lx ly : Lv) : Nat → (Nat → Value) → Value → World → (Nat → Prop) → Prop := fun rix => match rix with
  | 0 => fun _ v _ _ => v = lvV Aa ca la
  | 1 => fun _ v _ _ => v = lvV Ax cx lx
  | 2 => fun _ v _ _ => v = .bool true
  | 3 => fun _ v _ _ => v = .bool true
  | 4 => fun _ v _ _ => v = lvV Ax cx lx
  | 5 => fun _ v _ _ => v = lvV Aa ca la
  | 6 => fun _ v _ _ => v = .bool false
  | 7 => fun _ v _ _ => v = .bool true
  | 8 => fun _ v _ _ => v = .bool true
  | 9 => fun _ v _ _ => v = .bool true
  | 10 => fun _ v _ _ => v = lvV Aa ca la
  | 11 => fun _ v _ _ => v = lvV Ab cb lb
  | 12 => fun _ v _ _ => v = .bool (leqP (la) (lb))
  | 13 => fun _ v _ _ => v = lvV Ax cx lx
  | 14 => fun _ v _ _ => v = lvV Ay cy ly
  | 15 => fun _ v _ _ => v = .bool (leqP (lx) (ly))
  | 16 => fun _ v _ _ => v = .bool true
  | 17 => fun _ v _ _ => v = .bool true
  | 18 => fun _ v _ _ => v = .bool true
  | 19 => fun _ v _ _ => v = .int .i64 k
  | 20 => fun _ v _ _ => v = lvV Aa ca la
  | 21 => fun τ v w O => LvV (fun k => k < w0.heap.size) (plP (k) (la)) v w O
  | 22 => fun τ v w O => LvV (fun k => k < w0.heap.size) (plP (1) (plP (k) (la))) v w O
  | 23 => fun _ v _ _ => v = .int .i64 k
  | 24 => fun _ v _ _ => v = .int .i64 (k + 1)
  | 25 => fun _ v _ _ => v = lvV Aa ca la
  | 26 => fun τ v w O => LvV (fun k => k < w0.heap.size) (plP (k + 1) (la)) v w O
  | 27 => fun _ v _ _ => v = .bool true
  | 28 => fun _ v _ _ => v = .bool true
  | 29 => fun _ v _ _ => v = .bool true
  | 30 => fun _ v _ _ => v = .bool true
  | 31 => fun _ v _ _ => v = .bool true
  | 32 => fun _ v _ _ => v = .bool true
  | _ => fun _ _ _ _ => True
def rsb_C : Nat → List Nat := fun rix => match rix with
  | 22 => [21]
  | _ => []
theorem rsb_nw2 : nwB rsb_ops.toArray 2 = true := by kernel_rfl
theorem rsb_nw3 : nwB rsb_ops.toArray 3 = true := by kernel_rfl
theorem rsb_nw4 : nwB rsb_ops.toArray 4 = true := by kernel_rfl
theorem rsb_nw7 : nwB rsb_ops.toArray 7 = true := by kernel_rfl
theorem rsb_nw8 : nwB rsb_ops.toArray 8 = true := by kernel_rfl
set_option maxRecDepth 100000 in
set_option maxHeartbeats 8000000 in
theorem rsb_obs (w0 : World) (b : Nat) (Aa Ab : Option Addr) (ca cb : Nat) (la lb : Lv) (k : Int) (p q : Nat) (Ax Ay : Option Addr) (cx cy : Nat) (lx ly : Lv) (hxa : w0.heap[b]? = some (.cells #[.int .i64 la.kind, .int .i64 la.num, .slice Aa la.kids.length ca] 24 (0, 0))) (hina : LvS w0 (fun k => k < w0.heap.size) Aa ca la) (hxb : w0.heap[b + 1]? = some (.cells #[.int .i64 lb.kind, .int .i64 lb.num, .slice Ab lb.kids.length cb] 24 (0, 0))) (hinb : LvS w0 (fun k => k < w0.heap.size) Ab cb lb) (hxx : w0.heap[p]? = some (.cells #[.int .i64 lx.kind, .int .i64 lx.num, .slice Ax lx.kids.length cx] 24 (0, 0))) (hinx : LvS w0 (fun k => k < w0.heap.size) Ax cx lx) (hxy : w0.heap[q]? = some (.cells #[.int .i64 ly.kind, .int .i64 ly.num, .slice Ay ly.kids.length cy] 24 (0, 0))) (hiny : LvS w0 (fun k => k < w0.heap.size) Ay cy ly) (hk1 : 1 ≤ k) (hk2 : k ≤ 1000) (hna : -9223372036854775808 ≤ la.num) (hnb : -9223372036854775808 ≤ lb.num) (hnp : -9223372036854775808 ≤ (plP k la).num) (hwk : IntKind.i64.wrap (k + 1) = k + 1) (hq1 : leqP la lx = true) (hq2 : leqP lx la = false) (hq3 : leqP la lb = leqP lx ly) (hq4 : eqP (plP 1 (plP k la)) (plP (k + 1) la) = true) (Q : Exit → Act → World → Prop) (a0 : Act) (hi2 : a0.tmps.getD 2 undef = .int .i64 k) (hi3 : a0.tmps.getD 3 undef = .pointer (some ⟨b, 0, none⟩)) (hi4 : a0.tmps.getD 4 undef = .pointer (some ⟨b + 1, 0, none⟩)) (hi7 : a0.tmps.getD 7 undef = .pointer (some ⟨p, 0, none⟩)) (hi8 : a0.tmps.getD 8 undef = .pointer (some ⟨q, 0, none⟩)) :
    ObsE Try.prog rsb_ops.toArray Q (est2 0 0 (fun _ => False) (fun _ => False)) rsb_C (rsb_F w0 b Aa Ab ca cb la lb k p q Ax Ay cx cy lx ly) a0 w0 rsb_ops.toArray.toList 0 := by
  have nw2 := rsb_nw2
  have nw3 := rsb_nw3
  have nw4 := rsb_nw4
  have nw7 := rsb_nw7
  have nw8 := rsb_nw8
  refine ⟨?_, ?_, ?_, ?_, ?_, ?_, ?_, ?_, ?_, ?_, ?_, ?_, ?_, ?_, ?_, ?_, ?_, ?_, ?_, ?_, ?_, ?_, ?_, ?_, ?_, ?_, ?_, ?_, ?_, ?_, ?_, ?_, ?_, trivial⟩
  · refine ⟨⟨fun τ => stableE_det _, leans_not⟩, ?_⟩
    intro a w O hk
    have e3 : a.eval (.tmp 3) = .pointer (some ⟨b, 0, none⟩) := (hk.init 3 (initialB_of_nw nw3)).trans hi3
    have x3 := hk.world.still hxa (fun ⟨_, h⟩ => h.elim And.right And.right)
    have x4 := hk.world.still hxb (fun ⟨_, h⟩ => h.elim And.right And.right)
    have x7 := hk.world.still hxx (fun ⟨_, h⟩ => h.elim And.right And.right)
    have x8 := hk.world.still hxy (fun ⟨_, h⟩ => h.elim And.right And.right)
    exact obE_loadRow rfl e3 x3 Try.underlying24 rfl (by kernel_rfl) (wanted_none rfl) rfl
  · refine ⟨⟨fun τ => stableE_det _, leans_not⟩, ?_⟩
    intro a w O hk
    have e7 : a.eval (.tmp 7) = .pointer (some ⟨p, 0, none⟩) := (hk.init 7 (initialB_of_nw nw7)).trans hi7
    have x3 := hk.world.still hxa (fun ⟨_, h⟩ => h.elim And.right And.right)
    have x4 := hk.world.still hxb (fun ⟨_, h⟩ => h.elim And.right And.right)
    have x7 := hk.world.still hxx (fun ⟨_, h⟩ => h.elim And.right And.right)
    have x8 := hk.world.still hxy (fun ⟨_, h⟩ => h.elim And.right And.right)
    exact obE_loadRow rfl e7 x7 Try.underlying24 rfl (by kernel_rfl) (wanted_none rfl) rfl
  · refine ⟨⟨fun τ => stableE_det _, leans_not⟩, ?_⟩
    intro a w O hk
    have e48 : a.eval (.tmp 48) = lvV Aa ca la := hk.fact 0 _ 48 rfl rfl rfl rfl
    have e49 : a.eval (.tmp 49) = lvV Ax cx lx := hk.fact 1 _ 49 rfl rfl rfl rfl
    have x3 := hk.world.still hxa (fun ⟨_, h⟩ => h.elim And.right And.right)
    have x4 := hk.world.still hxb (fun ⟨_, h⟩ => h.elim And.right And.right)
    have x7 := hk.world.still hxx (fun ⟨_, h⟩ => h.elim And.right And.right)
    have x8 := hk.world.still hxy (fun ⟨_, h⟩ => h.elim And.right And.right)
    exact obE_lvLeq rfl (wanted_none rfl) (show LvV (fun k => k < w0.heap.size) la (a.eval (.tmp 48)) w (fun _ => False) by rw [e48]; exact LvV.old hina (fun k hk' => est2_fix hk' (fun h => h) (fun h => h)) hk.fix) (show LvV (fun k => k < w0.heap.size) lx (a.eval (.tmp 49)) w (fun _ => False) by rw [e49]; exact LvV.old hinx (fun k hk' => est2_fix hk' (fun h => h) (fun h => h)) hk.fix) hq1
  · refine ⟨⟨fun τ => stableE_det _, leans_not⟩, ?_⟩
    intro a w O hk
    have e50 : a.eval (.tmp 50) = .bool true := hk.fact 2 _ 50 rfl rfl rfl rfl
    exact toE (ob_move rfl e50 (wanted_none rfl) rfl)
  · refine ⟨⟨fun τ => stableE_det _, leans_not⟩, ?_⟩
    intro a w O hk
    have e7 : a.eval (.tmp 7) = .pointer (some ⟨p, 0, none⟩) := (hk.init 7 (initialB_of_nw nw7)).trans hi7
    have e51 : a.eval (.tmp 51) = .bool true := hk.fact 3 _ 51 rfl rfl rfl rfl
    have x3 := hk.world.still hxa (fun ⟨_, h⟩ => h.elim And.right And.right)
    have x4 := hk.world.still hxb (fun ⟨_, h⟩ => h.elim And.right And.right)
    have x7 := hk.world.still hxx (fun ⟨_, h⟩ => h.elim And.right And.right)
    have x8 := hk.world.still hxy (fun ⟨_, h⟩ => h.elim And.right And.right)
    exact obE_loadRow rfl e7 x7 Try.underlying24 rfl (by kernel_rfl) (wanted_of rfl rfl rfl e51) rfl
  · refine ⟨⟨fun τ => stableE_det _, leans_not⟩, ?_⟩
    intro a w O hk
    have e3 : a.eval (.tmp 3) = .pointer (some ⟨b, 0, none⟩) := (hk.init 3 (initialB_of_nw nw3)).trans hi3
    have e51 : a.eval (.tmp 51) = .bool true := hk.fact 3 _ 51 rfl rfl rfl rfl
    have x3 := hk.world.still hxa (fun ⟨_, h⟩ => h.elim And.right And.right)
    have x4 := hk.world.still hxb (fun ⟨_, h⟩ => h.elim And.right And.right)
    have x7 := hk.world.still hxx (fun ⟨_, h⟩ => h.elim And.right And.right)
    have x8 := hk.world.still hxy (fun ⟨_, h⟩ => h.elim And.right And.right)
    exact obE_loadRow rfl e3 x3 Try.underlying24 rfl (by kernel_rfl) (wanted_of rfl rfl rfl e51) rfl
  · refine ⟨⟨fun τ => stableE_det _, leans_not⟩, ?_⟩
    intro a w O hk
    have e52 : a.eval (.tmp 52) = lvV Ax cx lx := hk.fact 4 _ 52 rfl rfl rfl rfl
    have e53 : a.eval (.tmp 53) = lvV Aa ca la := hk.fact 5 _ 53 rfl rfl rfl rfl
    have e51 : a.eval (.tmp 51) = .bool true := hk.fact 3 _ 51 rfl rfl rfl rfl
    have x3 := hk.world.still hxa (fun ⟨_, h⟩ => h.elim And.right And.right)
    have x4 := hk.world.still hxb (fun ⟨_, h⟩ => h.elim And.right And.right)
    have x7 := hk.world.still hxx (fun ⟨_, h⟩ => h.elim And.right And.right)
    have x8 := hk.world.still hxy (fun ⟨_, h⟩ => h.elim And.right And.right)
    exact obE_lvLeq rfl (wanted_of rfl rfl rfl e51) (show LvV (fun k => k < w0.heap.size) lx (a.eval (.tmp 52)) w (fun _ => False) by rw [e52]; exact LvV.old hinx (fun k hk' => est2_fix hk' (fun h => h) (fun h => h)) hk.fix) (show LvV (fun k => k < w0.heap.size) la (a.eval (.tmp 53)) w (fun _ => False) by rw [e53]; exact LvV.old hina (fun k hk' => est2_fix hk' (fun h => h) (fun h => h)) hk.fix) hq2
  · refine ⟨⟨fun τ => stableE_det _, leans_not⟩, ?_⟩
    intro a w O hk
    have e54 : a.eval (.tmp 54) = .bool false := hk.fact 6 _ 54 rfl rfl rfl rfl
    have e51 : a.eval (.tmp 51) = .bool true := hk.fact 3 _ 51 rfl rfl rfl rfl
    have x3 := hk.world.still hxa (fun ⟨_, h⟩ => h.elim And.right And.right)
    have x4 := hk.world.still hxb (fun ⟨_, h⟩ => h.elim And.right And.right)
    have x7 := hk.world.still hxx (fun ⟨_, h⟩ => h.elim And.right And.right)
    have x8 := hk.world.still hxy (fun ⟨_, h⟩ => h.elim And.right And.right)
    exact obE_run (wanted_of rfl rfl rfl e51) (by unfold execOp; simp only []; rw [e54]; go_simp) rfl
  · refine ⟨⟨fun τ => stableE_det _, leans_not⟩, ?_⟩
    intro a w O hk
    have e51 : a.eval (.tmp 51) = .bool true := hk.fact 3 _ 51 rfl rfl rfl rfl
    have e55 : a.eval (.tmp 55) = .bool true := hk.fact 7 _ 55 rfl rfl rfl rfl
    exact toE (ob_pick rfl e51 e55 (wanted_none rfl) rfl)
  · refine ⟨⟨fun τ => stableE_det _, leans_not⟩, ?_⟩
    intro a w O hk
    have e56 : a.eval (.tmp 56) = .bool true := hk.fact 8 _ 56 rfl rfl rfl rfl
    exact toE (ob_move rfl e56 (wanted_none rfl) rfl)
  · refine ⟨⟨fun τ => stableE_det _, leans_not⟩, ?_⟩
    intro a w O hk
    have e3 : a.eval (.tmp 3) = .pointer (some ⟨b, 0, none⟩) := (hk.init 3 (initialB_of_nw nw3)).trans hi3
    have e57 : a.eval (.tmp 57) = .bool true := hk.fact 9 _ 57 rfl rfl rfl rfl
    have x3 := hk.world.still hxa (fun ⟨_, h⟩ => h.elim And.right And.right)
    have x4 := hk.world.still hxb (fun ⟨_, h⟩ => h.elim And.right And.right)
    have x7 := hk.world.still hxx (fun ⟨_, h⟩ => h.elim And.right And.right)
    have x8 := hk.world.still hxy (fun ⟨_, h⟩ => h.elim And.right And.right)
    exact obE_loadRow rfl e3 x3 Try.underlying24 rfl (by kernel_rfl) (wanted_of rfl rfl rfl e57) rfl
  · refine ⟨⟨fun τ => stableE_det _, leans_not⟩, ?_⟩
    intro a w O hk
    have e4 : a.eval (.tmp 4) = .pointer (some ⟨b + 1, 0, none⟩) := (hk.init 4 (initialB_of_nw nw4)).trans hi4
    have e57 : a.eval (.tmp 57) = .bool true := hk.fact 9 _ 57 rfl rfl rfl rfl
    have x3 := hk.world.still hxa (fun ⟨_, h⟩ => h.elim And.right And.right)
    have x4 := hk.world.still hxb (fun ⟨_, h⟩ => h.elim And.right And.right)
    have x7 := hk.world.still hxx (fun ⟨_, h⟩ => h.elim And.right And.right)
    have x8 := hk.world.still hxy (fun ⟨_, h⟩ => h.elim And.right And.right)
    exact obE_loadRow rfl e4 x4 Try.underlying24 rfl (by kernel_rfl) (wanted_of rfl rfl rfl e57) rfl
  · refine ⟨⟨fun τ => stableE_det _, leans_not⟩, ?_⟩
    intro a w O hk
    have e58 : a.eval (.tmp 58) = lvV Aa ca la := hk.fact 10 _ 58 rfl rfl rfl rfl
    have e59 : a.eval (.tmp 59) = lvV Ab cb lb := hk.fact 11 _ 59 rfl rfl rfl rfl
    have e57 : a.eval (.tmp 57) = .bool true := hk.fact 9 _ 57 rfl rfl rfl rfl
    have x3 := hk.world.still hxa (fun ⟨_, h⟩ => h.elim And.right And.right)
    have x4 := hk.world.still hxb (fun ⟨_, h⟩ => h.elim And.right And.right)
    have x7 := hk.world.still hxx (fun ⟨_, h⟩ => h.elim And.right And.right)
    have x8 := hk.world.still hxy (fun ⟨_, h⟩ => h.elim And.right And.right)
    exact obE_lvLeq rfl (wanted_of rfl rfl rfl e57) (show LvV (fun k => k < w0.heap.size) la (a.eval (.tmp 58)) w (fun _ => False) by rw [e58]; exact LvV.old hina (fun k hk' => est2_fix hk' (fun h => h) (fun h => h)) hk.fix) (show LvV (fun k => k < w0.heap.size) lb (a.eval (.tmp 59)) w (fun _ => False) by rw [e59]; exact LvV.old hinb (fun k hk' => est2_fix hk' (fun h => h) (fun h => h)) hk.fix) rfl
  · refine ⟨⟨fun τ => stableE_det _, leans_not⟩, ?_⟩
    intro a w O hk
    have e7 : a.eval (.tmp 7) = .pointer (some ⟨p, 0, none⟩) := (hk.init 7 (initialB_of_nw nw7)).trans hi7
    have e57 : a.eval (.tmp 57) = .bool true := hk.fact 9 _ 57 rfl rfl rfl rfl
    have x3 := hk.world.still hxa (fun ⟨_, h⟩ => h.elim And.right And.right)
    have x4 := hk.world.still hxb (fun ⟨_, h⟩ => h.elim And.right And.right)
    have x7 := hk.world.still hxx (fun ⟨_, h⟩ => h.elim And.right And.right)
    have x8 := hk.world.still hxy (fun ⟨_, h⟩ => h.elim And.right And.right)
    exact obE_loadRow rfl e7 x7 Try.underlying24 rfl (by kernel_rfl) (wanted_of rfl rfl rfl e57) rfl
  · refine ⟨⟨fun τ => stableE_det _, leans_not⟩, ?_⟩
    intro a w O hk
    have e8 : a.eval (.tmp 8) = .pointer (some ⟨q, 0, none⟩) := (hk.init 8 (initialB_of_nw nw8)).trans hi8
    have e57 : a.eval (.tmp 57) = .bool true := hk.fact 9 _ 57 rfl rfl rfl rfl
    have x3 := hk.world.still hxa (fun ⟨_, h⟩ => h.elim And.right And.right)
    have x4 := hk.world.still hxb (fun ⟨_, h⟩ => h.elim And.right And.right)
    have x7 := hk.world.still hxx (fun ⟨_, h⟩ => h.elim And.right And.right)
    have x8 := hk.world.still hxy (fun ⟨_, h⟩ => h.elim And.right And.right)
    exact obE_loadRow rfl e8 x8 Try.underlying24 rfl (by kernel_rfl) (wanted_of rfl rfl rfl e57) rfl
  · refine ⟨⟨fun τ => stableE_det _, leans_not⟩, ?_⟩
    intro a w O hk
    have e61 : a.eval (.tmp 61) = lvV Ax cx lx := hk.fact 13 _ 61 rfl rfl rfl rfl
    have e62 : a.eval (.tmp 62) = lvV Ay cy ly := hk.fact 14 _ 62 rfl rfl rfl rfl
    have e57 : a.eval (.tmp 57) = .bool true := hk.fact 9 _ 57 rfl rfl rfl rfl
    have x3 := hk.world.still hxa (fun ⟨_, h⟩ => h.elim And.right And.right)
    have x4 := hk.world.still hxb (fun ⟨_, h⟩ => h.elim And.right And.right)
    have x7 := hk.world.still hxx (fun ⟨_, h⟩ => h.elim And.right And.right)
    have x8 := hk.world.still hxy (fun ⟨_, h⟩ => h.elim And.right And.right)
    exact obE_lvLeq rfl (wanted_of rfl rfl rfl e57) (show LvV (fun k => k < w0.heap.size) lx (a.eval (.tmp 61)) w (fun _ => False) by rw [e61]; exact LvV.old hinx (fun k hk' => est2_fix hk' (fun h => h) (fun h => h)) hk.fix) (show LvV (fun k => k < w0.heap.size) ly (a.eval (.tmp 62)) w (fun _ => False) by rw [e62]; exact LvV.old hiny (fun k hk' => est2_fix hk' (fun h => h) (fun h => h)) hk.fix) rfl
  · refine ⟨⟨fun τ => stableE_det _, leans_not⟩, ?_⟩
    intro a w O hk
    have e60 : a.eval (.tmp 60) = .bool (leqP (la) (lb)) := hk.fact 12 _ 60 rfl rfl rfl rfl
    have e63 : a.eval (.tmp 63) = .bool (leqP (lx) (ly)) := hk.fact 15 _ 63 rfl rfl rfl rfl
    have e57 : a.eval (.tmp 57) = .bool true := hk.fact 9 _ 57 rfl rfl rfl rfl
    have x3 := hk.world.still hxa (fun ⟨_, h⟩ => h.elim And.right And.right)
    have x4 := hk.world.still hxb (fun ⟨_, h⟩ => h.elim And.right And.right)
    have x7 := hk.world.still hxx (fun ⟨_, h⟩ => h.elim And.right And.right)
    have x8 := hk.world.still hxy (fun ⟨_, h⟩ => h.elim And.right And.right)
    exact toE (ob_eqlBool true rfl e60 e63 Try.underlying4 (by rw [hq3]; simp) (wanted_of rfl rfl rfl e57) rfl)
  · refine ⟨⟨fun τ => stableE_det _, leans_not⟩, ?_⟩
    intro a w O hk
    have e57 : a.eval (.tmp 57) = .bool true := hk.fact 9 _ 57 rfl rfl rfl rfl
    have e64 : a.eval (.tmp 64) = .bool true := hk.fact 16 _ 64 rfl rfl rfl rfl
    exact toE (ob_pick rfl e57 e64 (wanted_none rfl) rfl)
  · refine ⟨⟨fun τ => stableE_det _, leans_not⟩, ?_⟩
    intro a w O hk
    have e65 : a.eval (.tmp 65) = .bool true := hk.fact 17 _ 65 rfl rfl rfl rfl
    exact toE (ob_move rfl e65 (wanted_none rfl) rfl)
  · refine ⟨⟨fun τ => stableE_det _, leans_not⟩, ?_⟩
    intro a w O hk
    have e2 : a.eval (.tmp 2) = .int .i64 k := (hk.init 2 (initialB_of_nw nw2)).trans hi2
    have e66 : a.eval (.tmp 66) = .bool true := hk.fact 18 _ 66 rfl rfl rfl rfl
    exact toE (ob_move rfl e2 (wanted_of rfl rfl rfl e66) rfl)
  · refine ⟨⟨fun τ => stableE_det _, leans_not⟩, ?_⟩
    intro a w O hk
    have e3 : a.eval (.tmp 3) = .pointer (some ⟨b, 0, none⟩) := (hk.init 3 (initialB_of_nw nw3)).trans hi3
    have e66 : a.eval (.tmp 66) = .bool true := hk.fact 18 _ 66 rfl rfl rfl rfl
    have x3 := hk.world.still hxa (fun ⟨_, h⟩ => h.elim And.right And.right)
    have x4 := hk.world.still hxb (fun ⟨_, h⟩ => h.elim And.right And.right)
    have x7 := hk.world.still hxx (fun ⟨_, h⟩ => h.elim And.right And.right)
    have x8 := hk.world.still hxy (fun ⟨_, h⟩ => h.elim And.right And.right)
    exact obE_loadRow rfl e3 x3 Try.underlying24 rfl (by kernel_rfl) (wanted_of rfl rfl rfl e66) rfl
  · refine ⟨⟨fun τ => stableE_lv (fun k hk' => est2_fix hk' (fun h => h) (fun h => h)), leans_not⟩, ?_⟩
    intro a w O hk
    have e67 : a.eval (.tmp 67) = .int .i64 k := hk.fact 19 _ 67 rfl rfl rfl rfl
    have e68 : a.eval (.tmp 68) = lvV Aa ca la := hk.fact 20 _ 68 rfl rfl rfl rfl
    have e66 : a.eval (.tmp 66) = .bool true := hk.fact 18 _ 66 rfl rfl rfl rfl
    have x3 := hk.world.still hxa (fun ⟨_, h⟩ => h.elim And.right And.right)
    have x4 := hk.world.still hxb (fun ⟨_, h⟩ => h.elim And.right And.right)
    have x7 := hk.world.still hxx (fun ⟨_, h⟩ => h.elim And.right And.right)
    have x8 := hk.world.still hxy (fun ⟨_, h⟩ => h.elim And.right And.right)
    exact obE_lvPlus rfl (wanted_of rfl rfl rfl e66) e67 (show LvV (fun k => k < w0.heap.size) la (a.eval (.tmp 68)) w (fun _ => False) by rw [e68]; exact LvV.old hina (fun k hk' => est2_fix hk' (fun h => h) (fun h => h)) hk.fix) (by omega) hna (fun k h => h.elim)
  · refine ⟨⟨fun τ => stableE_lv (fun k hk' => est2_fix hk' (fun h => h) (fun h => h)), leans_not⟩, ?_⟩
    intro a w O hk
    have f69 := hk.fact 21 _ 69 rfl rfl rfl rfl
    have g69 := hk.owns 21 rfl rfl
    have e66 : a.eval (.tmp 66) = .bool true := hk.fact 18 _ 66 rfl rfl rfl rfl
    have x3 := hk.world.still hxa (fun ⟨_, h⟩ => h.elim And.right And.right)
    have x4 := hk.world.still hxb (fun ⟨_, h⟩ => h.elim And.right And.right)
    have x7 := hk.world.still hxx (fun ⟨_, h⟩ => h.elim And.right And.right)
    have x8 := hk.world.still hxy (fun ⟨_, h⟩ => h.elim And.right And.right)
    exact obE_lvPlus rfl (wanted_of rfl rfl rfl e66) rfl (show LvV (fun k => k < w0.heap.size) (plP (k) (la)) (a.eval (.tmp 69)) w (O 21) from f69) (by decide) hnp (fun k h => .inl ⟨21, by simp [rsb_C], h⟩)
  · refine ⟨⟨fun τ => stableE_det _, leans_not⟩, ?_⟩
    intro a w O hk
    have e2 : a.eval (.tmp 2) = .int .i64 k := (hk.init 2 (initialB_of_nw nw2)).trans hi2
    have e66 : a.eval (.tmp 66) = .bool true := hk.fact 18 _ 66 rfl rfl rfl rfl
    exact toE (ob_move rfl e2 (wanted_of rfl rfl rfl e66) rfl)
  · refine ⟨⟨fun τ => stableE_det _, leans_not⟩, ?_⟩
    intro a w O hk
    have e71 : a.eval (.tmp 71) = .int .i64 k := hk.fact 23 _ 71 rfl rfl rfl rfl
    have e66 : a.eval (.tmp 66) = .bool true := hk.fact 18 _ 66 rfl rfl rfl rfl
    have x3 := hk.world.still hxa (fun ⟨_, h⟩ => h.elim And.right And.right)
    have x4 := hk.world.still hxb (fun ⟨_, h⟩ => h.elim And.right And.right)
    have x7 := hk.world.still hxx (fun ⟨_, h⟩ => h.elim And.right And.right)
    have x8 := hk.world.still hxy (fun ⟨_, h⟩ => h.elim And.right And.right)
    exact obE_run (wanted_of rfl rfl rfl e66) (by unfold execOp; simp only []; rw [e71]; go_simp) rfl
  · refine ⟨⟨fun τ => stableE_det _, leans_not⟩, ?_⟩
    intro a w O hk
    have e3 : a.eval (.tmp 3) = .pointer (some ⟨b, 0, none⟩) := (hk.init 3 (initialB_of_nw nw3)).trans hi3
    have e66 : a.eval (.tmp 66) = .bool true := hk.fact 18 _ 66 rfl rfl rfl rfl
    have x3 := hk.world.still hxa (fun ⟨_, h⟩ => h.elim And.right And.right)
    have x4 := hk.world.still hxb (fun ⟨_, h⟩ => h.elim And.right And.right)
    have x7 := hk.world.still hxx (fun ⟨_, h⟩ => h.elim And.right And.right)
    have x8 := hk.world.still hxy (fun ⟨_, h⟩ => h.elim And.right And.right)
    exact obE_loadRow rfl e3 x3 Try.underlying24 rfl (by kernel_rfl) (wanted_of rfl rfl rfl e66) rfl
  · refine ⟨⟨fun τ => stableE_lv (fun k hk' => est2_fix hk' (fun h => h) (fun h => h)), leans_not⟩, ?_⟩
    intro a w O hk
    have e72 : a.eval (.tmp 72) = .int .i64 (k + 1) := hk.fact 24 _ 72 rfl rfl rfl rfl
    have e73 : a.eval (.tmp 73) = lvV Aa ca la := hk.fact 25 _ 73 rfl rfl rfl rfl
    have e66 : a.eval (.tmp 66) = .bool true := hk.fact 18 _ 66 rfl rfl rfl rfl
    have x3 := hk.world.still hxa (fun ⟨_, h⟩ => h.elim And.right And.right)
    have x4 := hk.world.still hxb (fun ⟨_, h⟩ => h.elim And.right And.right)
    have x7 := hk.world.still hxx (fun ⟨_, h⟩ => h.elim And.right And.right)
    have x8 := hk.world.still hxy (fun ⟨_, h⟩ => h.elim And.right And.right)
    exact obE_lvPlus rfl (wanted_of rfl rfl rfl e66) e72 (show LvV (fun k => k < w0.heap.size) la (a.eval (.tmp 73)) w (fun _ => False) by rw [e73]; exact LvV.old hina (fun k hk' => est2_fix hk' (fun h => h) (fun h => h)) hk.fix) (by omega) hna (fun k h => h.elim)
  · refine ⟨⟨fun τ => stableE_det _, leans_not⟩, ?_⟩
    intro a w O hk
    have f70 := hk.fact 22 _ 70 rfl rfl rfl rfl
    have g70 := hk.owns 22 rfl rfl
    have f74 := hk.fact 26 _ 74 rfl rfl rfl rfl
    have g74 := hk.owns 26 rfl rfl
    have e66 : a.eval (.tmp 66) = .bool true := hk.fact 18 _ 66 rfl rfl rfl rfl
    have x3 := hk.world.still hxa (fun ⟨_, h⟩ => h.elim And.right And.right)
    have x4 := hk.world.still hxb (fun ⟨_, h⟩ => h.elim And.right And.right)
    have x7 := hk.world.still hxx (fun ⟨_, h⟩ => h.elim And.right And.right)
    have x8 := hk.world.still hxy (fun ⟨_, h⟩ => h.elim And.right And.right)
    exact obE_lvEqual rfl (wanted_of rfl rfl rfl e66) (show LvV (fun k => k < w0.heap.size) (plP (1) (plP (k) (la))) (a.eval (.tmp 70)) w (O 22) from f70) (show LvV (fun k => k < w0.heap.size) (plP (k + 1) (la)) (a.eval (.tmp 74)) w (O 26) from f74) hq4
  · refine ⟨⟨fun τ => stableE_det _, leans_not⟩, ?_⟩
    intro a w O hk
    have e66 : a.eval (.tmp 66) = .bool true := hk.fact 18 _ 66 rfl rfl rfl rfl
    have e75 : a.eval (.tmp 75) = .bool true := hk.fact 27 _ 75 rfl rfl rfl rfl
    exact toE (ob_pick rfl e66 e75 (wanted_none rfl) rfl)
  · refine ⟨⟨fun τ => stableE_det _, leans_not⟩, ?_⟩
    intro a w O hk
    have e76 : a.eval (.tmp 76) = .bool true := hk.fact 28 _ 76 rfl rfl rfl rfl
    exact toE (ob_move rfl e76 (wanted_none rfl) rfl)
  · refine ⟨⟨fun τ => stableE_det _, leans_not⟩, ?_⟩
    intro a w O hk
    have e77 : a.eval (.tmp 77) = .bool true := hk.fact 29 _ 77 rfl rfl rfl rfl
    have x3 := hk.world.still hxa (fun ⟨_, h⟩ => h.elim And.right And.right)
    have x4 := hk.world.still hxb (fun ⟨_, h⟩ => h.elim And.right And.right)
    have x7 := hk.world.still hxx (fun ⟨_, h⟩ => h.elim And.right And.right)
    have x8 := hk.world.still hxy (fun ⟨_, h⟩ => h.elim And.right And.right)
    exact obE_awake rfl (wanted_of rfl rfl rfl e77)
  · refine ⟨⟨fun τ => stableE_det _, leans_not⟩, ?_⟩
    intro a w O hk
    have e77 : a.eval (.tmp 77) = .bool true := hk.fact 29 _ 77 rfl rfl rfl rfl
    have e78 : a.eval (.tmp 78) = .bool true := hk.fact 30 _ 78 rfl rfl rfl rfl
    exact toE (ob_pick rfl e77 e78 (wanted_none rfl) rfl)
  · refine ⟨⟨fun τ => stableE_det _, leans_not⟩, ?_⟩
    intro a w O hk
    have e79 : a.eval (.tmp 79) = .bool true := hk.fact 31 _ 79 rfl rfl rfl rfl
    exact toE (ob_assign rfl e79 (wanted_none rfl) rfl)
set_option maxRecDepth 100000 in
set_option maxHeartbeats 8000000 in
theorem rsb_region {Q : Exit → Act → World → Prop} {id : Nat} (w0 : World) (b : Nat) (Aa Ab : Option Addr) (ca cb : Nat) (la lb : Lv) (k : Int) (p q : Nat) (Ax Ay : Option Addr) (cx cy : Nat) (lx ly : Lv) {s0 s1 s5 s6 s9 s10 s11 s12 s13 s14 s15 s16 s17 s18 s19 s20 s21 s22 s23 s24 s25 s26 s27 s28 s29 s30 s31 s32 s33 s34 s35 s36 s37 s38 s39 s40 s41 s42 s43 s44 s45 s46 s47 s48 s49 s50 s51 s52 s53 s54 s55 s56 s57 s58 s59 s60 s61 s62 s63 s64 s65 s66 s67 s68 s69 s70 s71 s72 s73 s74 s75 s76 s77 s78 s79 : Value} (hxa : w0.heap[b]? = some (.cells #[.int .i64 la.kind, .int .i64 la.num, .slice Aa la.kids.length ca] 24 (0, 0))) (hina : LvS w0 (fun k => k < w0.heap.size) Aa ca la) (hxb : w0.heap[b + 1]? = some (.cells #[.int .i64 lb.kind, .int .i64 lb.num, .slice Ab lb.kids.length cb] 24 (0, 0))) (hinb : LvS w0 (fun k => k < w0.heap.size) Ab cb lb) (hxx : w0.heap[p]? = some (.cells #[.int .i64 lx.kind, .int .i64 lx.num, .slice Ax lx.kids.length cx] 24 (0, 0))) (hinx : LvS w0 (fun k => k < w0.heap.size) Ax cx lx) (hxy : w0.heap[q]? = some (.cells #[.int .i64 ly.kind, .int .i64 ly.num, .slice Ay ly.kids.length cy] 24 (0, 0))) (hiny : LvS w0 (fun k => k < w0.heap.size) Ay cy ly) (hk1 : 1 ≤ k) (hk2 : k ≤ 1000) (hna : -9223372036854775808 ≤ la.num) (hnb : -9223372036854775808 ≤ lb.num) (hnp : -9223372036854775808 ≤ (plP k la).num) (hwk : IntKind.i64.wrap (k + 1) = k + 1) (hq1 : leqP la lx = true) (hq2 : leqP lx la = false) (hq3 : leqP la lb = leqP lx ly) (hq4 : eqP (plP 1 (plP k la)) (plP (k + 1) la) = true)
    (hend : ∀ (w' : World) (u69 : Value) (u70 : Value) (u74 : Value) (O22 : Nat → Prop) (O26 : Nat → Prop), Chg (fun k => False ∨ False) w0 w' → (LvV (fun k => k < w0.heap.size) (plP (1) (plP (k) (la))) u70 w' O22) → (∀ k, O22 k → k < w'.heap.size ∧ ¬ Fix w0 (est2 0 0 (fun _ => False) (fun _ => False)) k) → (LvV (fun k => k < w0.heap.size) (plP (k + 1) (la)) u74 w' O26) → (∀ k, O26 k → k < w'.heap.size ∧ ¬ Fix w0 (est2 0 0 (fun _ => False) (fun _ => False)) k) → Q .normal { tmps := (s0 :: s1 :: (.int .i64 k : Value) :: (.pointer (some ⟨b, 0, none⟩) : Value) :: (.pointer (some ⟨b + 1, 0, none⟩) : Value) :: s5 :: (.bool true : Value) :: (.pointer (some ⟨p, 0, none⟩) : Value) :: (.pointer (some ⟨q, 0, none⟩) : Value) :: s9 :: s10 :: s11 :: s12 :: s13 :: s14 :: s15 :: s16 :: s17 :: s18 :: s19 :: s20 :: s21 :: s22 :: s23 :: s24 :: s25 :: s26 :: s27 :: s28 :: s29 :: s30 :: s31 :: s32 :: s33 :: s34 :: s35 :: s36 :: s37 :: s38 :: s39 :: s40 :: s41 :: s42 :: s43 :: s44 :: s45 :: s46 :: s47 :: (lvV Aa ca la : Value) :: (lvV Ax cx lx : Value) :: (.bool true : Value) :: (.bool true : Value) :: (lvV Ax cx lx : Value) :: (lvV Aa ca la : Value) :: (.bool false : Value) :: (.bool true : Value) :: (.bool true : Value) :: (.bool true : Value) :: (lvV Aa ca la : Value) :: (lvV Ab cb lb : Value) :: (.bool (leqP (la) (lb)) : Value) :: (lvV Ax cx lx : Value) :: (lvV Ay cy ly : Value) :: (.bool (leqP (lx) (ly)) : Value) :: (.bool true : Value) :: (.bool true : Value) :: (.bool true : Value) :: (.int .i64 k : Value) :: (lvV Aa ca la : Value) :: u69 :: u70 :: (.int .i64 k : Value) :: (.int .i64 (k + 1) : Value) :: (lvV Aa ca la : Value) :: u74 :: (.bool true : Value) :: (.bool true : Value) :: (.bool true : Value) :: (.bool true : Value) :: (.bool true : Value) :: ([] : List Value)).toArray, defers := [] } w') :
    (Code.region id rsb_ops.toArray true).wp Try.prog Q { tmps := (s0 :: s1 :: (.int .i64 k : Value) :: (.pointer (some ⟨b, 0, none⟩) : Value) :: (.pointer (some ⟨b + 1, 0, none⟩) : Value) :: s5 :: s6 :: (.pointer (some ⟨p, 0, none⟩) : Value) :: (.pointer (some ⟨q, 0, none⟩) : Value) :: s9 :: s10 :: s11 :: s12 :: s13 :: s14 :: s15 :: s16 :: s17 :: s18 :: s19 :: s20 :: s21 :: s22 :: s23 :: s24 :: s25 :: s26 :: s27 :: s28 :: s29 :: s30 :: s31 :: s32 :: s33 :: s34 :: s35 :: s36 :: s37 :: s38 :: s39 :: s40 :: s41 :: s42 :: s43 :: s44 :: s45 :: s46 :: s47 :: s48 :: s49 :: s50 :: s51 :: s52 :: s53 :: s54 :: s55 :: s56 :: s57 :: s58 :: s59 :: s60 :: s61 :: s62 :: s63 :: s64 :: s65 :: s66 :: s67 :: s68 :: s69 :: s70 :: s71 :: s72 :: s73 :: s74 :: s75 :: s76 :: s77 :: s78 :: s79 :: ([] : List Value)).toArray, defers := [] } w0 := by
  refine wp_region_est (by kernel_rfl) (est2 0 0 (fun _ => False) (fun _ => False)) rsb_C (rsb_F w0 b Aa Ab ca cb la lb k p q Ax Ay cx cy lx ly) (est2_dis (fun _ h _ => h)) (est2_range (fun _ h => h.elim) (fun _ h => h.elim)) (by rfl) (by kernel_rfl) (rsb_obs w0.drew b Aa Ab ca cb la lb k p q Ax Ay cx cy lx ly hxa (LvS.later hina (below_drew (Below.refl _ _))) hxb (LvS.later hinb (below_drew (Below.refl _ _))) hxx (LvS.later hinx (below_drew (Below.refl _ _))) hxy (LvS.later hiny (below_drew (Below.refl _ _))) hk1 hk2 hna hnb hnp hwk hq1 hq2 hq3 hq4 _ _ rfl rfl rfl rfl rfl) ?_
  intro a w' O hd hs hb hf hf2 ha hsame
  have x0 : a.tmps.getD 0 undef = s0 := hsame 0 (nwB.spec (by kernel_rfl))
  have x1 : a.tmps.getD 1 undef = s1 := hsame 1 (nwB.spec (by kernel_rfl))
  have x2 : a.tmps.getD 2 undef = .int .i64 k := hsame 2 (nwB.spec (by kernel_rfl))
  have x3 : a.tmps.getD 3 undef = .pointer (some ⟨b, 0, none⟩) := hsame 3 (nwB.spec (by kernel_rfl))
  have x4 : a.tmps.getD 4 undef = .pointer (some ⟨b + 1, 0, none⟩) := hsame 4 (nwB.spec (by kernel_rfl))
  have x5 : a.tmps.getD 5 undef = s5 := hsame 5 (nwB.spec (by kernel_rfl))
  have x6 : a.tmps.getD 6 undef = .bool true := (hf 32 _ 6 rfl rfl (by decide)).1
  have x7 : a.tmps.getD 7 undef = .pointer (some ⟨p, 0, none⟩) := hsame 7 (nwB.spec (by kernel_rfl))
  have x8 : a.tmps.getD 8 undef = .pointer (some ⟨q, 0, none⟩) := hsame 8 (nwB.spec (by kernel_rfl))
  have x9 : a.tmps.getD 9 undef = s9 := hsame 9 (nwB.spec (by kernel_rfl))
  have x10 : a.tmps.getD 10 undef = s10 := hsame 10 (nwB.spec (by kernel_rfl))
  have x11 : a.tmps.getD 11 undef = s11 := hsame 11 (nwB.spec (by kernel_rfl))
  have x12 : a.tmps.getD 12 undef = s12 := hsame 12 (nwB.spec (by kernel_rfl))
  have x13 : a.tmps.getD 13 undef = s13 := hsame 13 (nwB.spec (by kernel_rfl))
  have x14 : a.tmps.getD 14 undef = s14 := hsame 14 (nwB.spec (by kernel_rfl))
  have x15 : a.tmps.getD 15 undef = s15 := hsame 15 (nwB.spec (by kernel_rfl))
  have x16 : a.tmps.getD 16 undef = s16 := hsame 16 (nwB.spec (by kernel_rfl))
  have x17 : a.tmps.getD 17 undef = s17 := hsame 17 (nwB.spec (by kernel_rfl))
  have x18 : a.tmps.getD 18 undef = s18 := hsame 18 (nwB.spec (by kernel_rfl))
  have x19 : a.tmps.getD 19 undef = s19 := hsame 19 (nwB.spec (by kernel_rfl))
  have x20 : a.tmps.getD 20 undef = s20 := hsame 20 (nwB.spec (by kernel_rfl))
  have x21 : a.tmps.getD 21 undef = s21 := hsame 21 (nwB.spec (by kernel_rfl))
  have x22 : a.tmps.getD 22 undef = s22 := hsame 22 (nwB.spec (by kernel_rfl))
  have x23 : a.tmps.getD 23 undef = s23 := hsame 23 (nwB.spec (by kernel_rfl))
  have x24 : a.tmps.getD 24 undef = s24 := hsame 24 (nwB.spec (by kernel_rfl))
  have x25 : a.tmps.getD 25 undef = s25 := hsame 25 (nwB.spec (by kernel_rfl))
  have x26 : a.tmps.getD 26 undef = s26 := hsame 26 (nwB.spec (by kernel_rfl))
  have x27 : a.tmps.getD 27 undef = s27 := hsame 27 (nwB.spec (by kernel_rfl))
  have x28 : a.tmps.getD 28 undef = s28 := hsame 28 (nwB.spec (by kernel_rfl))
  have x29 : a.tmps.getD 29 undef = s29 := hsame 29 (nwB.spec (by kernel_rfl))
  have x30 : a.tmps.getD 30 undef = s30 := hsame 30 (nwB.spec (by kernel_rfl))
  have x31 : a.tmps.getD 31 undef = s31 := hsame 31 (nwB.spec (by kernel_rfl))
  have x32 : a.tmps.getD 32 undef = s32 := hsame 32 (nwB.spec (by kernel_rfl))
  have x33 : a.tmps.getD 33 undef = s33 := hsame 33 (nwB.spec (by kernel_rfl))
  have x34 : a.tmps.getD 34 undef = s34 := hsame 34 (nwB.spec (by kernel_rfl))
  have x35 : a.tmps.getD 35 undef = s35 := hsame 35 (nwB.spec (by kernel_rfl))
  have x36 : a.tmps.getD 36 undef = s36 := hsame 36 (nwB.spec (by kernel_rfl))
  have x37 : a.tmps.getD 37 undef = s37 := hsame 37 (nwB.spec (by kernel_rfl))
  have x38 : a.tmps.getD 38 undef = s38 := hsame 38 (nwB.spec (by kernel_rfl))
  have x39 : a.tmps.getD 39 undef = s39 := hsame 39 (nwB.spec (by kernel_rfl))
  have x40 : a.tmps.getD 40 undef = s40 := hsame 40 (nwB.spec (by kernel_rfl))
  have x41 : a.tmps.getD 41 undef = s41 := hsame 41 (nwB.spec (by kernel_rfl))
  have x42 : a.tmps.getD 42 undef = s42 := hsame 42 (nwB.spec (by kernel_rfl))
  have x43 : a.tmps.getD 43 undef = s43 := hsame 43 (nwB.spec (by kernel_rfl))
  have x44 : a.tmps.getD 44 undef = s44 := hsame 44 (nwB.spec (by kernel_rfl))
  have x45 : a.tmps.getD 45 undef = s45 := hsame 45 (nwB.spec (by kernel_rfl))
  have x46 : a.tmps.getD 46 undef = s46 := hsame 46 (nwB.spec (by kernel_rfl))
  have x47 : a.tmps.getD 47 undef = s47 := hsame 47 (nwB.spec (by kernel_rfl))
  have x48 : a.tmps.getD 48 undef = lvV Aa ca la := (hf 0 _ 48 rfl rfl (by decide)).1
  have x49 : a.tmps.getD 49 undef = lvV Ax cx lx := (hf 1 _ 49 rfl rfl (by decide)).1
  have x50 : a.tmps.getD 50 undef = .bool true := (hf 2 _ 50 rfl rfl (by decide)).1
  have x51 : a.tmps.getD 51 undef = .bool true := (hf 3 _ 51 rfl rfl (by decide)).1
  have x52 : a.tmps.getD 52 undef = lvV Ax cx lx := (hf 4 _ 52 rfl rfl (by decide)).1
  have x53 : a.tmps.getD 53 undef = lvV Aa ca la := (hf 5 _ 53 rfl rfl (by decide)).1
  have x54 : a.tmps.getD 54 undef = .bool false := (hf 6 _ 54 rfl rfl (by decide)).1
  have x55 : a.tmps.getD 55 undef = .bool true := (hf 7 _ 55 rfl rfl (by decide)).1
  have x56 : a.tmps.getD 56 undef = .bool true := (hf 8 _ 56 rfl rfl (by decide)).1
  have x57 : a.tmps.getD 57 undef = .bool true := (hf 9 _ 57 rfl rfl (by decide)).1
  have x58 : a.tmps.getD 58 undef = lvV Aa ca la := (hf 10 _ 58 rfl rfl (by decide)).1
  have x59 : a.tmps.getD 59 undef = lvV Ab cb lb := (hf 11 _ 59 rfl rfl (by decide)).1
  have x60 : a.tmps.getD 60 undef = .bool (leqP (la) (lb)) := (hf 12 _ 60 rfl rfl (by decide)).1
  have x61 : a.tmps.getD 61 undef = lvV Ax cx lx := (hf 13 _ 61 rfl rfl (by decide)).1
  have x62 : a.tmps.getD 62 undef = lvV Ay cy ly := (hf 14 _ 62 rfl rfl (by decide)).1
  have x63 : a.tmps.getD 63 undef = .bool (leqP (lx) (ly)) := (hf 15 _ 63 rfl rfl (by decide)).1
  have x64 : a.tmps.getD 64 undef = .bool true := (hf 16 _ 64 rfl rfl (by decide)).1
  have x65 : a.tmps.getD 65 undef = .bool true := (hf 17 _ 65 rfl rfl (by decide)).1
  have x66 : a.tmps.getD 66 undef = .bool true := (hf 18 _ 66 rfl rfl (by decide)).1
  have x67 : a.tmps.getD 67 undef = .int .i64 k := (hf 19 _ 67 rfl rfl (by decide)).1
  have x68 : a.tmps.getD 68 undef = lvV Aa ca la := (hf 20 _ 68 rfl rfl (by decide)).1
  have x71 : a.tmps.getD 71 undef = .int .i64 k := (hf 23 _ 71 rfl rfl (by decide)).1
  have x72 : a.tmps.getD 72 undef = .int .i64 (k + 1) := (hf 24 _ 72 rfl rfl (by decide)).1
  have x73 : a.tmps.getD 73 undef = lvV Aa ca la := (hf 25 _ 73 rfl rfl (by decide)).1
  have x75 : a.tmps.getD 75 undef = .bool true := (hf 27 _ 75 rfl rfl (by decide)).1
  have x76 : a.tmps.getD 76 undef = .bool true := (hf 28 _ 76 rfl rfl (by decide)).1
  have x77 : a.tmps.getD 77 undef = .bool true := (hf 29 _ 77 rfl rfl (by decide)).1
  have x78 : a.tmps.getD 78 undef = .bool true := (hf 30 _ 78 rfl rfl (by decide)).1
  have x79 : a.tmps.getD 79 undef = .bool true := (hf 31 _ 79 rfl rfl (by decide)).1
  have hl : a.tmps = (s0 :: s1 :: (.int .i64 k : Value) :: (.pointer (some ⟨b, 0, none⟩) : Value) :: (.pointer (some ⟨b + 1, 0, none⟩) : Value) :: s5 :: (.bool true : Value) :: (.pointer (some ⟨p, 0, none⟩) : Value) :: (.pointer (some ⟨q, 0, none⟩) : Value) :: s9 :: s10 :: s11 :: s12 :: s13 :: s14 :: s15 :: s16 :: s17 :: s18 :: s19 :: s20 :: s21 :: s22 :: s23 :: s24 :: s25 :: s26 :: s27 :: s28 :: s29 :: s30 :: s31 :: s32 :: s33 :: s34 :: s35 :: s36 :: s37 :: s38 :: s39 :: s40 :: s41 :: s42 :: s43 :: s44 :: s45 :: s46 :: s47 :: (lvV Aa ca la : Value) :: (lvV Ax cx lx : Value) :: (.bool true : Value) :: (.bool true : Value) :: (lvV Ax cx lx : Value) :: (lvV Aa ca la : Value) :: (.bool false : Value) :: (.bool true : Value) :: (.bool true : Value) :: (.bool true : Value) :: (lvV Aa ca la : Value) :: (lvV Ab cb lb : Value) :: (.bool (leqP (la) (lb)) : Value) :: (lvV Ax cx lx : Value) :: (lvV Ay cy ly : Value) :: (.bool (leqP (lx) (ly)) : Value) :: (.bool true : Value) :: (.bool true : Value) :: (.bool true : Value) :: (.int .i64 k : Value) :: (lvV Aa ca la : Value) :: (a.tmps.getD 69 undef : Value) :: (a.tmps.getD 70 undef : Value) :: (.int .i64 k : Value) :: (.int .i64 (k + 1) : Value) :: (lvV Aa ca la : Value) :: (a.tmps.getD 74 undef : Value) :: (.bool true : Value) :: (.bool true : Value) :: (.bool true : Value) :: (.bool true : Value) :: (.bool true : Value) :: ([] : List Value)).toArray := by
    have h := lit a.tmps 80 hs
    have e : ((List.range 80).map (fun i => a.tmps.getD i undef)).toArray = ((a.tmps.getD 0 undef : Value) :: (a.tmps.getD 1 undef : Value) :: (a.tmps.getD 2 undef : Value) :: (a.tmps.getD 3 undef : Value) :: (a.tmps.getD 4 undef : Value) :: (a.tmps.getD 5 undef : Value) :: (a.tmps.getD 6 undef : Value) :: (a.tmps.getD 7 undef : Value) :: (a.tmps.getD 8 undef : Value) :: (a.tmps.getD 9 undef : Value) :: (a.tmps.getD 10 undef : Value) :: (a.tmps.getD 11 undef : Value) :: (a.tmps.getD 12 undef : Value) :: (a.tmps.getD 13 undef : Value) :: (a.tmps.getD 14 undef : Value) :: (a.tmps.getD 15 undef : Value) :: (a.tmps.getD 16 undef : Value) :: (a.tmps.getD 17 undef : Value) :: (a.tmps.getD 18 undef : Value) :: (a.tmps.getD 19 undef : Value) :: (a.tmps.getD 20 undef : Value) :: (a.tmps.getD 21 undef : Value) :: (a.tmps.getD 22 undef : Value) :: (a.tmps.getD 23 undef : Value) :: (a.tmps.getD 24 undef : Value) :: (a.tmps.getD 25 undef : Value) :: (a.tmps.getD 26 undef : Value) :: (a.tmps.getD 27 undef : Value) :: (a.tmps.getD 28 undef : Value) :: (a.tmps.getD 29 undef : Value) :: (a.tmps.getD 30 undef : Value) :: (a.tmps.getD 31 undef : Value) :: (a.tmps.getD 32 undef : Value) :: (a.tmps.getD 33 undef : Value) :: (a.tmps.getD 34 undef : Value) :: (a.tmps.getD 35 undef : Value) :: (a.tmps.getD 36 undef : Value) :: (a.tmps.getD 37 undef : Value) :: (a.tmps.getD 38 undef : Value) :: (a.tmps.getD 39 undef : Value) :: (a.tmps.getD 40 undef : Value) :: (a.tmps.getD 41 undef : Value) :: (a.tmps.getD 42 undef : Value) :: (a.tmps.getD 43 undef : Value) :: (a.tmps.getD 44 undef : Value) :: (a.tmps.getD 45 undef : Value) :: (a.tmps.getD 46 undef : Value) :: (a.tmps.getD 47 undef : Value) :: (a.tmps.getD 48 undef : Value) :: (a.tmps.getD 49 undef : Value) :: (a.tmps.getD 50 undef : Value) :: (a.tmps.getD 51 undef : Value) :: (a.tmps.getD 52 undef : Value) :: (a.tmps.getD 53 undef : Value) :: (a.tmps.getD 54 undef : Value) :: (a.tmps.getD 55 undef : Value) :: (a.tmps.getD 56 undef : Value) :: (a.tmps.getD 57 undef : Value) :: (a.tmps.getD 58 undef : Value) :: (a.tmps.getD 59 undef : Value) :: (a.tmps.getD 60 undef : Value) :: (a.tmps.getD 61 undef : Value) :: (a.tmps.getD 62 undef : Value) :: (a.tmps.getD 63 undef : Value) :: (a.tmps.getD 64 undef : Value) :: (a.tmps.getD 65 undef : Value) :: (a.tmps.getD 66 undef : Value) :: (a.tmps.getD 67 undef : Value) :: (a.tmps.getD 68 undef : Value) :: (a.tmps.getD 69 undef : Value) :: (a.tmps.getD 70 undef : Value) :: (a.tmps.getD 71 undef : Value) :: (a.tmps.getD 72 undef : Value) :: (a.tmps.getD 73 undef : Value) :: (a.tmps.getD 74 undef : Value) :: (a.tmps.getD 75 undef : Value) :: (a.tmps.getD 76 undef : Value) :: (a.tmps.getD 77 undef : Value) :: (a.tmps.getD 78 undef : Value) :: (a.tmps.getD 79 undef : Value) :: ([] : List Value)).toArray := rfl
    rw [e, x0, x1, x2, x3, x4, x5, x6, x7, x8, x9, x10, x11, x12, x13, x14, x15, x16, x17, x18, x19, x20, x21, x22, x23, x24, x25, x26, x27, x28, x29, x30, x31, x32, x33, x34, x35, x36, x37, x38, x39, x40, x41, x42, x43, x44, x45, x46, x47, x48, x49, x50, x51, x52, x53, x54, x55, x56, x57, x58, x59, x60, x61, x62, x63, x64, x65, x66, x67, x68, x71, x72, x73, x75, x76, x77, x78, x79] at h
    exact h
  obtain ⟨tmps, defers⟩ := a
  obtain rfl : defers = [] := hd
  have hl' : tmps = _ := hl
  rw [hl']
  have hb' := est2_chg hb
  exact hend w' _ _ _ (O 22) (O 26) ⟨hb'.os, hb'.tape, hb'.output, hb'.size, hb'.block⟩ (hf 22 _ 70 rfl rfl (by decide)).1 (hf 22 _ 70 rfl rfl (by decide)).2 (hf 26 _ 74 rfl rfl (by decide)).1 (hf 26 _ 74 rfl rfl (by decide)).2

end Go.Proofs.Ytjlhbaohippidaa
