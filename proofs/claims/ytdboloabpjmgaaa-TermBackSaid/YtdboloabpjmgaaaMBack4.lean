/-
  Merged: SeR, SeW, LifS, InsS, TBkR.
-/
import Derived.Test.YtdboloabpjmgaaaMBack3
/-! SeR -/
namespace Go.Proofs.Ytdboloabpjmgaaa
open Go.RowKit Go.Proofs.YtdboloabpjmgaaaW.PrintWords Go.RegionInvYtdboloabpjmgaaa Go.RegionEYtdboloabpjmgaaa
set_option linter.unusedVariables false

def spn_ops : List Oper := [
  { dst := some 6, op := Go.Op.fieldAddr 28 (Go.Operand.tmp 2) 0, type := 0, pos := "term.go:249", after := #[], guard := none },
  { dst := some 7, op := Go.Op.load 3 (Go.Operand.tmp 6), type := 3, pos := "term.go:249", after := #[{ on := 0, ground := Go.Ground.data }], guard := none },
  { dst := some 8, op := Go.Op.fieldAddr 28 (Go.Operand.tmp 3) 0, type := 0, pos := "term.go:249", after := #[], guard := none },
  { dst := some 9, op := Go.Op.load 3 (Go.Operand.tmp 8), type := 3, pos := "term.go:249", after := #[{ on := 2, ground := Go.Ground.data }], guard := none },
  { dst := some 10, op := Go.Op.binOp Go.BinOp.neq 3 (Go.Operand.tmp 7) (Go.Operand.tmp 9) 3, type := 4, pos := "term.go:249", after := #[{ on := 1, ground := Go.Ground.data }, { on := 3, ground := Go.Ground.data }], guard := none },
  { dst := some 11, op := Go.Op.move (Go.Operand.tmp 10), type := 4, pos := "term.go:249", after := #[{ on := 4, ground := Go.Ground.data }], guard := none },
  { dst := some 12, op := Go.Op.load 28 (Go.Operand.tmp 2), type := 28, pos := "term.go:249", after := #[{ on := 5, ground := Go.Ground.guard }], guard := some (5, false) },
  { dst := some 13, op := Go.Op.call { callee := Go.Callee.value (Go.Operand.func 75), args := #[Go.Operand.tmp 12], argTypes := #[28] }, type := 4, pos := "term.go:249", after := #[{ on := 6, ground := Go.Ground.data }, { on := 5, ground := Go.Ground.chain }, { on := 5, ground := Go.Ground.guard }], guard := some (5, false) },
  { dst := some 14, op := Go.Op.load 28 (Go.Operand.tmp 3), type := 28, pos := "term.go:249", after := #[{ on := 5, ground := Go.Ground.guard }], guard := some (5, false) },
  { dst := some 15, op := Go.Op.call { callee := Go.Callee.value (Go.Operand.func 75), args := #[Go.Operand.tmp 14], argTypes := #[28] }, type := 4, pos := "term.go:249", after := #[{ on := 8, ground := Go.Ground.data }, { on := 7, ground := Go.Ground.chain }, { on := 5, ground := Go.Ground.guard }], guard := some (5, false) },
  { dst := some 16, op := Go.Op.binOp Go.BinOp.neq 4 (Go.Operand.tmp 13) (Go.Operand.tmp 15) 4, type := 4, pos := "term.go:249", after := #[{ on := 7, ground := Go.Ground.data }, { on := 9, ground := Go.Ground.data }, { on := 5, ground := Go.Ground.guard }], guard := some (5, false) },
  { dst := some 17, op := Go.Op.pick (Go.Operand.tmp 11) (Go.Operand.const (Go.Value.bool true)) (Go.Operand.tmp 16), type := 4, pos := "term.go:249", after := #[{ on := 5, ground := Go.Ground.data }, { on := 10, ground := Go.Ground.data }], guard := none }]
def spn_F (w0 : World) (g h : Nat) (p q : Pl) (t u : Tm) : Nat → (Nat → Value) → Value → World → (Nat → Prop) → Prop := fun rix => match rix with
  | 0 => fun _ v _ _ => v = .pointer (some ⟨g, 0, none⟩)
  | 1 => fun _ v _ _ => v = .int .i64 t.kind
  | 2 => fun _ v _ _ => v = .pointer (some ⟨h, 0, none⟩)
  | 3 => fun _ v _ _ => v = .int .i64 u.kind
  | 4 => fun _ v _ _ => v = .bool true
  | 5 => fun _ v _ _ => v = .bool true
  | 6 => fun _ v _ _ => v = undef
  | 7 => fun _ v _ _ => v = undef
  | 8 => fun _ v _ _ => v = undef
  | 9 => fun _ v _ _ => v = undef
  | 10 => fun _ v _ _ => v = undef
  | 11 => fun _ v _ _ => v = .bool true
  | _ => fun _ _ _ _ => True
def spn_C : Nat → List Nat := fun rix => match rix with
  | _ => []
theorem spn_nw2 : nwB spn_ops.toArray 2 = true := by kernel_rfl
theorem spn_nw3 : nwB spn_ops.toArray 3 = true := by kernel_rfl
set_option maxRecDepth 100000 in
set_option maxHeartbeats 8000000 in
theorem spn_obs (w0 : World) (g h : Nat) (p q : Pl) (t u : Tm) (hx2 : w0.heap[g]? = some (tmO p t)) (hx3 : w0.heap[h]? = some (tmO q u)) (hkk : t.kind ≠ u.kind) (Q : Exit → Act → World → Prop) (a0 : Act) (hi2 : a0.tmps.getD 2 undef = .pointer (some ⟨g, 0, none⟩)) (hi3 : a0.tmps.getD 3 undef = .pointer (some ⟨h, 0, none⟩)) :
    ObsE Try.prog spn_ops.toArray Q (est2 0 0 (fun _ => False) (fun _ => False)) spn_C (spn_F w0 g h p q t u) a0 w0 spn_ops.toArray.toList 0 := by
  have nw2 := spn_nw2
  have nw3 := spn_nw3
  refine ⟨?_, ?_, ?_, ?_, ?_, ?_, ?_, ?_, ?_, ?_, ?_, ?_, trivial⟩
  · refine ⟨⟨fun τ => stableE_det _, leans_not⟩, ?_⟩
    intro a w O hk
    have e2 : a.eval (.tmp 2) = .pointer (some ⟨g, 0, none⟩) := (hk.init 2 (initialB_of_nw nw2)).trans hi2
    exact obE_run (wanted_none rfl) (by unfold execOp; simp only []; rw [e2]; go_simp) rfl
  · refine ⟨⟨fun τ => stableE_det _, leans_not⟩, ?_⟩
    intro a w O hk
    have e6 : a.eval (.tmp 6) = .pointer (some ⟨g, 0, none⟩) := hk.fact 0 _ 6 rfl rfl rfl rfl
    have x2 := hk.world.still hx2 (fun ⟨_, h⟩ => h.elim And.right And.right)
    obtain ⟨p0, p1, p2, p3, p4, p5, p6, p7⟩ := row8 x2
    exact obE_run (wanted_none rfl) (by unfold execOp; simp only []; rw [e6]; go_simp) rfl
  · refine ⟨⟨fun τ => stableE_det _, leans_not⟩, ?_⟩
    intro a w O hk
    have e3 : a.eval (.tmp 3) = .pointer (some ⟨h, 0, none⟩) := (hk.init 3 (initialB_of_nw nw3)).trans hi3
    exact obE_run (wanted_none rfl) (by unfold execOp; simp only []; rw [e3]; go_simp) rfl
  · refine ⟨⟨fun τ => stableE_det _, leans_not⟩, ?_⟩
    intro a w O hk
    have e8 : a.eval (.tmp 8) = .pointer (some ⟨h, 0, none⟩) := hk.fact 2 _ 8 rfl rfl rfl rfl
    have x3 := hk.world.still hx3 (fun ⟨_, h⟩ => h.elim And.right And.right)
    obtain ⟨p0, p1, p2, p3, p4, p5, p6, p7⟩ := row8 x3
    exact obE_run (wanted_none rfl) (by unfold execOp; simp only []; rw [e8]; go_simp) rfl
  · refine ⟨⟨fun τ => stableE_det _, leans_not⟩, ?_⟩
    intro a w O hk
    have e7 : a.eval (.tmp 7) = .int .i64 t.kind := hk.fact 1 _ 7 rfl rfl rfl rfl
    have e9 : a.eval (.tmp 9) = .int .i64 u.kind := hk.fact 3 _ 9 rfl rfl rfl rfl
    exact toE (ob_neqInt true rfl e7 e9 (by simp [hkk]) (wanted_none rfl) rfl)
  · refine ⟨⟨fun τ => stableE_det _, leans_not⟩, ?_⟩
    intro a w O hk
    have e10 : a.eval (.tmp 10) = .bool true := hk.fact 4 _ 10 rfl rfl rfl rfl
    exact toE (ob_move rfl e10 (wanted_none rfl) rfl)
  · refine ⟨⟨fun τ => stableE_det _, leans_not⟩, ?_⟩
    intro a w O hk
    have e2 : a.eval (.tmp 2) = .pointer (some ⟨g, 0, none⟩) := (hk.init 2 (initialB_of_nw nw2)).trans hi2
    have e11 : a.eval (.tmp 11) = .bool true := hk.fact 5 _ 11 rfl rfl rfl rfl
    exact toE (ob_skip (unwanted_of rfl rfl rfl e11 (by decide)) rfl)
  · refine ⟨⟨fun τ => stableE_det _, leans_not⟩, ?_⟩
    intro a w O hk
    have e12 : a.eval (.tmp 12) = undef := hk.fact 6 _ 12 rfl rfl rfl rfl
    have e11 : a.eval (.tmp 11) = .bool true := hk.fact 5 _ 11 rfl rfl rfl rfl
    exact toE (ob_skip (unwanted_of rfl rfl rfl e11 (by decide)) rfl)
  · refine ⟨⟨fun τ => stableE_det _, leans_not⟩, ?_⟩
    intro a w O hk
    have e3 : a.eval (.tmp 3) = .pointer (some ⟨h, 0, none⟩) := (hk.init 3 (initialB_of_nw nw3)).trans hi3
    have e11 : a.eval (.tmp 11) = .bool true := hk.fact 5 _ 11 rfl rfl rfl rfl
    exact toE (ob_skip (unwanted_of rfl rfl rfl e11 (by decide)) rfl)
  · refine ⟨⟨fun τ => stableE_det _, leans_not⟩, ?_⟩
    intro a w O hk
    have e14 : a.eval (.tmp 14) = undef := hk.fact 8 _ 14 rfl rfl rfl rfl
    have e11 : a.eval (.tmp 11) = .bool true := hk.fact 5 _ 11 rfl rfl rfl rfl
    exact toE (ob_skip (unwanted_of rfl rfl rfl e11 (by decide)) rfl)
  · refine ⟨⟨fun τ => stableE_det _, leans_not⟩, ?_⟩
    intro a w O hk
    have e13 : a.eval (.tmp 13) = undef := hk.fact 7 _ 13 rfl rfl rfl rfl
    have e15 : a.eval (.tmp 15) = undef := hk.fact 9 _ 15 rfl rfl rfl rfl
    have e11 : a.eval (.tmp 11) = .bool true := hk.fact 5 _ 11 rfl rfl rfl rfl
    exact toE (ob_skip (unwanted_of rfl rfl rfl e11 (by decide)) rfl)
  · refine ⟨⟨fun τ => stableE_det _, leans_not⟩, ?_⟩
    intro a w O hk
    have e11 : a.eval (.tmp 11) = .bool true := hk.fact 5 _ 11 rfl rfl rfl rfl
    have e16 : a.eval (.tmp 16) = undef := hk.fact 10 _ 16 rfl rfl rfl rfl
    exact toE (ob_pick rfl e11 rfl (wanted_none rfl) rfl)
set_option maxRecDepth 100000 in
set_option maxHeartbeats 8000000 in
theorem spn_region {Q : Exit → Act → World → Prop} {id : Nat} (w0 : World) (g h : Nat) (p q : Pl) (t u : Tm) {s0 s1 s4 s5 s6 s7 s8 s9 s10 s11 s12 s13 s14 s15 s16 s17 s18 s19 s20 s21 s22 s23 s24 s25 s26 s27 s28 s29 s30 s31 s32 s33 s34 s35 s36 s37 s38 s39 s40 s41 s42 s43 s44 s45 s46 s47 s48 s49 s50 s51 s52 s53 s54 s55 s56 s57 s58 s59 s60 s61 s62 s63 s64 s65 s66 s67 s68 : Value} (hx2 : w0.heap[g]? = some (tmO p t)) (hx3 : w0.heap[h]? = some (tmO q u)) (hkk : t.kind ≠ u.kind)
    (hend : ∀ (w' : World), Chg (fun k => False ∨ False) w0 w' → Q .normal { tmps := (s0 :: s1 :: (.pointer (some ⟨g, 0, none⟩)) :: (.pointer (some ⟨h, 0, none⟩)) :: s4 :: s5 :: (.pointer (some ⟨g, 0, none⟩)) :: (.int .i64 t.kind) :: (.pointer (some ⟨h, 0, none⟩)) :: (.int .i64 u.kind) :: (.bool true) :: (.bool true) :: undef :: undef :: undef :: undef :: undef :: (.bool true) :: s18 :: s19 :: s20 :: s21 :: s22 :: s23 :: s24 :: s25 :: s26 :: s27 :: s28 :: s29 :: s30 :: s31 :: s32 :: s33 :: s34 :: s35 :: s36 :: s37 :: s38 :: s39 :: s40 :: s41 :: s42 :: s43 :: s44 :: s45 :: s46 :: s47 :: s48 :: s49 :: s50 :: s51 :: s52 :: s53 :: s54 :: s55 :: s56 :: s57 :: s58 :: s59 :: s60 :: s61 :: s62 :: s63 :: s64 :: s65 :: s66 :: s67 :: s68 :: [] : List Value).toArray, defers := [] } w') :
    (Code.region id spn_ops.toArray true).wp Try.prog Q { tmps := (s0 :: s1 :: (.pointer (some ⟨g, 0, none⟩)) :: (.pointer (some ⟨h, 0, none⟩)) :: s4 :: s5 :: s6 :: s7 :: s8 :: s9 :: s10 :: s11 :: s12 :: s13 :: s14 :: s15 :: s16 :: s17 :: s18 :: s19 :: s20 :: s21 :: s22 :: s23 :: s24 :: s25 :: s26 :: s27 :: s28 :: s29 :: s30 :: s31 :: s32 :: s33 :: s34 :: s35 :: s36 :: s37 :: s38 :: s39 :: s40 :: s41 :: s42 :: s43 :: s44 :: s45 :: s46 :: s47 :: s48 :: s49 :: s50 :: s51 :: s52 :: s53 :: s54 :: s55 :: s56 :: s57 :: s58 :: s59 :: s60 :: s61 :: s62 :: s63 :: s64 :: s65 :: s66 :: s67 :: s68 :: [] : List Value).toArray, defers := [] } w0 := by
  refine wp_region_est (by kernel_rfl) (est2 0 0 (fun _ => False) (fun _ => False)) spn_C (spn_F w0 g h p q t u) (est2_dis (fun _ h _ => h)) (est2_range (fun _ h => h.elim) (fun _ h => h.elim)) (by rfl) (by kernel_rfl) (spn_obs w0.drew g h p q t u hx2 hx3 hkk _ _ rfl rfl) ?_
  intro a w' O hd hs hb hf hf2 ha hsame
  have hl := slots_eq (ops := spn_ops.toArray) [(6, .pointer (some ⟨g, 0, none⟩)), (7, .int .i64 t.kind), (8, .pointer (some ⟨h, 0, none⟩)), (9, .int .i64 u.kind), (10, .bool true), (11, .bool true), (12, undef), (13, undef), (14, undef), (15, undef), (16, undef), (17, .bool true)] (show a.tmps.size = 69 from hs) (fun i h => hsame i h) ⟨(hf 0 _ 6 rfl rfl (by decide)).1, (hf 1 _ 7 rfl rfl (by decide)).1, (hf 2 _ 8 rfl rfl (by decide)).1, (hf 3 _ 9 rfl rfl (by decide)).1, (hf 4 _ 10 rfl rfl (by decide)).1, (hf 5 _ 11 rfl rfl (by decide)).1, (hf 6 _ 12 rfl rfl (by decide)).1, (hf 7 _ 13 rfl rfl (by decide)).1, (hf 8 _ 14 rfl rfl (by decide)).1, (hf 9 _ 15 rfl rfl (by decide)).1, (hf 10 _ 16 rfl rfl (by decide)).1, (hf 11 _ 17 rfl rfl (by decide)).1, trivial⟩ (by kernel_rfl)
  obtain ⟨tmps, defers⟩ := a
  obtain rfl : defers = [] := hd
  have hl' : tmps = _ := hl
  rw [hl']
  have hb' := est2_chg hb
  refine Eq.mp ?_ (hend w' ⟨hb'.os, hb'.tape, hb'.output, hb'.size, hb'.block⟩)
  kernel_rfl

def spy_F (w0 : World) (g h : Nat) (p q : Pl) (t u : Tm) (la lb nl : Bool) : Nat → (Nat → Value) → Value → World → (Nat → Prop) → Prop := fun rix => match rix with
  | 0 => fun _ v _ _ => v = .pointer (some ⟨g, 0, none⟩)
  | 1 => fun _ v _ _ => v = .int .i64 t.kind
  | 2 => fun _ v _ _ => v = .pointer (some ⟨h, 0, none⟩)
  | 3 => fun _ v _ _ => v = .int .i64 u.kind
  | 4 => fun _ v _ _ => v = .bool false
  | 5 => fun _ v _ _ => v = .bool false
  | 6 => fun _ v _ _ => v = tmV p t
  | 7 => fun _ v _ _ => v = .bool la
  | 8 => fun _ v _ _ => v = tmV q u
  | 9 => fun _ v _ _ => v = .bool lb
  | 10 => fun _ v _ _ => v = .bool nl
  | 11 => fun _ v _ _ => v = .bool nl
  | _ => fun _ _ _ _ => True
def spy_C : Nat → List Nat := fun rix => match rix with
  | _ => []
theorem spy_nw2 : nwB spn_ops.toArray 2 = true := by kernel_rfl
theorem spy_nw3 : nwB spn_ops.toArray 3 = true := by kernel_rfl
set_option maxRecDepth 100000 in
set_option maxHeartbeats 8000000 in
theorem spy_obs (w0 : World) (g h : Nat) (p q : Pl) (t u : Tm) (la lb nl : Bool) (hx2 : w0.heap[g]? = some (tmO p t)) (hx3 : w0.heap[h]? = some (tmO q u)) (hkk : t.kind = u.kind) (hla : leafT t = la) (hlb : leafT u = lb) (hnl : (la != lb) = nl) (Q : Exit → Act → World → Prop) (a0 : Act) (hi2 : a0.tmps.getD 2 undef = .pointer (some ⟨g, 0, none⟩)) (hi3 : a0.tmps.getD 3 undef = .pointer (some ⟨h, 0, none⟩)) :
    ObsE Try.prog spn_ops.toArray Q (est2 0 0 (fun _ => False) (fun _ => False)) spy_C (spy_F w0 g h p q t u la lb nl) a0 w0 spn_ops.toArray.toList 0 := by
  have nw2 := spy_nw2
  have nw3 := spy_nw3
  refine ⟨?_, ?_, ?_, ?_, ?_, ?_, ?_, ?_, ?_, ?_, ?_, ?_, trivial⟩
  · refine ⟨⟨fun τ => stableE_det _, leans_not⟩, ?_⟩
    intro a w O hk
    have e2 : a.eval (.tmp 2) = .pointer (some ⟨g, 0, none⟩) := (hk.init 2 (initialB_of_nw nw2)).trans hi2
    exact obE_run (wanted_none rfl) (by unfold execOp; simp only []; rw [e2]; go_simp) rfl
  · refine ⟨⟨fun τ => stableE_det _, leans_not⟩, ?_⟩
    intro a w O hk
    have e6 : a.eval (.tmp 6) = .pointer (some ⟨g, 0, none⟩) := hk.fact 0 _ 6 rfl rfl rfl rfl
    have x2 := hk.world.still hx2 (fun ⟨_, h⟩ => h.elim And.right And.right)
    obtain ⟨p0, p1, p2, p3, p4, p5, p6, p7⟩ := row8 x2
    exact obE_run (wanted_none rfl) (by unfold execOp; simp only []; rw [e6]; go_simp) rfl
  · refine ⟨⟨fun τ => stableE_det _, leans_not⟩, ?_⟩
    intro a w O hk
    have e3 : a.eval (.tmp 3) = .pointer (some ⟨h, 0, none⟩) := (hk.init 3 (initialB_of_nw nw3)).trans hi3
    exact obE_run (wanted_none rfl) (by unfold execOp; simp only []; rw [e3]; go_simp) rfl
  · refine ⟨⟨fun τ => stableE_det _, leans_not⟩, ?_⟩
    intro a w O hk
    have e8 : a.eval (.tmp 8) = .pointer (some ⟨h, 0, none⟩) := hk.fact 2 _ 8 rfl rfl rfl rfl
    have x3 := hk.world.still hx3 (fun ⟨_, h⟩ => h.elim And.right And.right)
    obtain ⟨p0, p1, p2, p3, p4, p5, p6, p7⟩ := row8 x3
    exact obE_run (wanted_none rfl) (by unfold execOp; simp only []; rw [e8]; go_simp) rfl
  · refine ⟨⟨fun τ => stableE_det _, leans_not⟩, ?_⟩
    intro a w O hk
    have e7 : a.eval (.tmp 7) = .int .i64 t.kind := hk.fact 1 _ 7 rfl rfl rfl rfl
    have e9 : a.eval (.tmp 9) = .int .i64 u.kind := hk.fact 3 _ 9 rfl rfl rfl rfl
    exact toE (ob_neqInt false rfl e7 e9 (by simp [hkk]) (wanted_none rfl) rfl)
  · refine ⟨⟨fun τ => stableE_det _, leans_not⟩, ?_⟩
    intro a w O hk
    have e10 : a.eval (.tmp 10) = .bool false := hk.fact 4 _ 10 rfl rfl rfl rfl
    exact toE (ob_move rfl e10 (wanted_none rfl) rfl)
  · refine ⟨⟨fun τ => stableE_det _, leans_not⟩, ?_⟩
    intro a w O hk
    have e2 : a.eval (.tmp 2) = .pointer (some ⟨g, 0, none⟩) := (hk.init 2 (initialB_of_nw nw2)).trans hi2
    have e11 : a.eval (.tmp 11) = .bool false := hk.fact 5 _ 11 rfl rfl rfl rfl
    have x2 := hk.world.still hx2 (fun ⟨_, h⟩ => h.elim And.right And.right)
    exact obE_loadRow rfl e2 x2 Try.underlying28 rfl (by kernel_rfl) (wanted_of rfl rfl rfl e11) rfl
  · refine ⟨⟨fun τ => stableE_det _, leans_not⟩, ?_⟩
    intro a w O hk
    have e12 : a.eval (.tmp 12) = tmV p t := hk.fact 6 _ 12 rfl rfl rfl rfl
    have e11 : a.eval (.tmp 11) = .bool false := hk.fact 5 _ 11 rfl rfl rfl rfl
    exact obE_callV #[tmV p t] rfl rfl rfl rfl (by simp only [List.map_cons, List.map_nil]; rw [e12]) (wanted_of rfl rfl rfl e11) ((leaf_calls t p w).mono fun e w' h => ⟨by rw [h.1, hla], h.2⟩)
  · refine ⟨⟨fun τ => stableE_det _, leans_not⟩, ?_⟩
    intro a w O hk
    have e3 : a.eval (.tmp 3) = .pointer (some ⟨h, 0, none⟩) := (hk.init 3 (initialB_of_nw nw3)).trans hi3
    have e11 : a.eval (.tmp 11) = .bool false := hk.fact 5 _ 11 rfl rfl rfl rfl
    have x3 := hk.world.still hx3 (fun ⟨_, h⟩ => h.elim And.right And.right)
    exact obE_loadRow rfl e3 x3 Try.underlying28 rfl (by kernel_rfl) (wanted_of rfl rfl rfl e11) rfl
  · refine ⟨⟨fun τ => stableE_det _, leans_not⟩, ?_⟩
    intro a w O hk
    have e14 : a.eval (.tmp 14) = tmV q u := hk.fact 8 _ 14 rfl rfl rfl rfl
    have e11 : a.eval (.tmp 11) = .bool false := hk.fact 5 _ 11 rfl rfl rfl rfl
    exact obE_callV #[tmV q u] rfl rfl rfl rfl (by simp only [List.map_cons, List.map_nil]; rw [e14]) (wanted_of rfl rfl rfl e11) ((leaf_calls u q w).mono fun e w' h => ⟨by rw [h.1, hlb], h.2⟩)
  · refine ⟨⟨fun τ => stableE_det _, leans_not⟩, ?_⟩
    intro a w O hk
    have e13 : a.eval (.tmp 13) = .bool la := hk.fact 7 _ 13 rfl rfl rfl rfl
    have e15 : a.eval (.tmp 15) = .bool lb := hk.fact 9 _ 15 rfl rfl rfl rfl
    have e11 : a.eval (.tmp 11) = .bool false := hk.fact 5 _ 11 rfl rfl rfl rfl
    exact toE (ob_neB nl rfl e13 e15 Try.underlying4 hnl (wanted_of rfl rfl rfl e11) rfl)
  · refine ⟨⟨fun τ => stableE_det _, leans_not⟩, ?_⟩
    intro a w O hk
    have e11 : a.eval (.tmp 11) = .bool false := hk.fact 5 _ 11 rfl rfl rfl rfl
    have e16 : a.eval (.tmp 16) = .bool nl := hk.fact 10 _ 16 rfl rfl rfl rfl
    exact toE (ob_pick rfl e11 e16 (wanted_none rfl) rfl)
set_option maxRecDepth 100000 in
set_option maxHeartbeats 8000000 in
theorem spy_region {Q : Exit → Act → World → Prop} {id : Nat} (w0 : World) (g h : Nat) (p q : Pl) (t u : Tm) (la lb nl : Bool) {s0 s1 s4 s5 s6 s7 s8 s9 s10 s11 s12 s13 s14 s15 s16 s17 s18 s19 s20 s21 s22 s23 s24 s25 s26 s27 s28 s29 s30 s31 s32 s33 s34 s35 s36 s37 s38 s39 s40 s41 s42 s43 s44 s45 s46 s47 s48 s49 s50 s51 s52 s53 s54 s55 s56 s57 s58 s59 s60 s61 s62 s63 s64 s65 s66 s67 s68 : Value} (hx2 : w0.heap[g]? = some (tmO p t)) (hx3 : w0.heap[h]? = some (tmO q u)) (hkk : t.kind = u.kind) (hla : leafT t = la) (hlb : leafT u = lb) (hnl : (la != lb) = nl)
    (hend : ∀ (w' : World), Chg (fun k => False ∨ False) w0 w' → Q .normal { tmps := (s0 :: s1 :: (.pointer (some ⟨g, 0, none⟩)) :: (.pointer (some ⟨h, 0, none⟩)) :: s4 :: s5 :: (.pointer (some ⟨g, 0, none⟩)) :: (.int .i64 t.kind) :: (.pointer (some ⟨h, 0, none⟩)) :: (.int .i64 u.kind) :: (.bool false) :: (.bool false) :: (tmV p t) :: (.bool la) :: (tmV q u) :: (.bool lb) :: (.bool nl) :: (.bool nl) :: s18 :: s19 :: s20 :: s21 :: s22 :: s23 :: s24 :: s25 :: s26 :: s27 :: s28 :: s29 :: s30 :: s31 :: s32 :: s33 :: s34 :: s35 :: s36 :: s37 :: s38 :: s39 :: s40 :: s41 :: s42 :: s43 :: s44 :: s45 :: s46 :: s47 :: s48 :: s49 :: s50 :: s51 :: s52 :: s53 :: s54 :: s55 :: s56 :: s57 :: s58 :: s59 :: s60 :: s61 :: s62 :: s63 :: s64 :: s65 :: s66 :: s67 :: s68 :: [] : List Value).toArray, defers := [] } w') :
    (Code.region id spn_ops.toArray true).wp Try.prog Q { tmps := (s0 :: s1 :: (.pointer (some ⟨g, 0, none⟩)) :: (.pointer (some ⟨h, 0, none⟩)) :: s4 :: s5 :: s6 :: s7 :: s8 :: s9 :: s10 :: s11 :: s12 :: s13 :: s14 :: s15 :: s16 :: s17 :: s18 :: s19 :: s20 :: s21 :: s22 :: s23 :: s24 :: s25 :: s26 :: s27 :: s28 :: s29 :: s30 :: s31 :: s32 :: s33 :: s34 :: s35 :: s36 :: s37 :: s38 :: s39 :: s40 :: s41 :: s42 :: s43 :: s44 :: s45 :: s46 :: s47 :: s48 :: s49 :: s50 :: s51 :: s52 :: s53 :: s54 :: s55 :: s56 :: s57 :: s58 :: s59 :: s60 :: s61 :: s62 :: s63 :: s64 :: s65 :: s66 :: s67 :: s68 :: [] : List Value).toArray, defers := [] } w0 := by
  refine wp_region_est (by kernel_rfl) (est2 0 0 (fun _ => False) (fun _ => False)) spy_C (spy_F w0 g h p q t u la lb nl) (est2_dis (fun _ h _ => h)) (est2_range (fun _ h => h.elim) (fun _ h => h.elim)) (by rfl) (by kernel_rfl) (spy_obs w0.drew g h p q t u la lb nl hx2 hx3 hkk hla hlb hnl _ _ rfl rfl) ?_
  intro a w' O hd hs hb hf hf2 ha hsame
  have hl := slots_eq (ops := spn_ops.toArray) [(6, .pointer (some ⟨g, 0, none⟩)), (7, .int .i64 t.kind), (8, .pointer (some ⟨h, 0, none⟩)), (9, .int .i64 u.kind), (10, .bool false), (11, .bool false), (12, tmV p t), (13, .bool la), (14, tmV q u), (15, .bool lb), (16, .bool nl), (17, .bool nl)] (show a.tmps.size = 69 from hs) (fun i h => hsame i h) ⟨(hf 0 _ 6 rfl rfl (by decide)).1, (hf 1 _ 7 rfl rfl (by decide)).1, (hf 2 _ 8 rfl rfl (by decide)).1, (hf 3 _ 9 rfl rfl (by decide)).1, (hf 4 _ 10 rfl rfl (by decide)).1, (hf 5 _ 11 rfl rfl (by decide)).1, (hf 6 _ 12 rfl rfl (by decide)).1, (hf 7 _ 13 rfl rfl (by decide)).1, (hf 8 _ 14 rfl rfl (by decide)).1, (hf 9 _ 15 rfl rfl (by decide)).1, (hf 10 _ 16 rfl rfl (by decide)).1, (hf 11 _ 17 rfl rfl (by decide)).1, trivial⟩ (by kernel_rfl)
  obtain ⟨tmps, defers⟩ := a
  obtain rfl : defers = [] := hd
  have hl' : tmps = _ := hl
  rw [hl']
  have hb' := est2_chg hb
  refine Eq.mp ?_ (hend w' ⟨hb'.os, hb'.tape, hb'.output, hb'.size, hb'.block⟩)
  kernel_rfl

theorem below_undrew {w0 w : World} (h : Below w0.drew.heap.size w0.drew w) : Below w0.heap.size w0 w := Below.trans (below_drew (Below.refl _ _)) h

def spk_ops : List Oper := [
  { dst := some 56, op := Go.Op.fieldAddr 28 (Go.Operand.tmp 2) 5, type := 0, pos := "term.go:264", after := #[], guard := none },
  { dst := some 57, op := Go.Op.load 26 (Go.Operand.tmp 56), type := 26, pos := "term.go:264", after := #[{ on := 0, ground := Go.Ground.data }], guard := none },
  { dst := some 58, op := Go.Op.move (Go.Operand.tmp 5), type := 3, pos := "term.go:264", after := #[], guard := none },
  { dst := some 59, op := Go.Op.indexAddr 26 (Go.Operand.tmp 57) (Go.Operand.tmp 58), type := 0, pos := "term.go:264", after := #[{ on := 1, ground := Go.Ground.data }, { on := 2, ground := Go.Ground.data }], guard := none },
  { dst := some 60, op := Go.Op.load 28 (Go.Operand.tmp 59), type := 28, pos := "term.go:264", after := #[{ on := 3, ground := Go.Ground.data }], guard := none },
  { dst := some 61, op := Go.Op.fieldAddr 28 (Go.Operand.tmp 3) 5, type := 0, pos := "term.go:264", after := #[], guard := none },
  { dst := some 62, op := Go.Op.load 26 (Go.Operand.tmp 61), type := 26, pos := "term.go:264", after := #[{ on := 5, ground := Go.Ground.data }], guard := none },
  { dst := some 63, op := Go.Op.move (Go.Operand.tmp 5), type := 3, pos := "term.go:264", after := #[], guard := none },
  { dst := some 64, op := Go.Op.indexAddr 26 (Go.Operand.tmp 62) (Go.Operand.tmp 63), type := 0, pos := "term.go:264", after := #[{ on := 6, ground := Go.Ground.data }, { on := 7, ground := Go.Ground.data }], guard := none },
  { dst := some 65, op := Go.Op.load 28 (Go.Operand.tmp 64), type := 28, pos := "term.go:264", after := #[{ on := 8, ground := Go.Ground.data }], guard := none },
  { dst := some 66, op := Go.Op.call { callee := Go.Callee.value (Go.Operand.func 85), args := #[Go.Operand.tmp 60, Go.Operand.tmp 65], argTypes := #[28, 28] }, type := 4, pos := "term.go:264", after := #[{ on := 4, ground := Go.Ground.data }, { on := 9, ground := Go.Ground.data }], guard := none },
  { dst := some 67, op := Go.Op.unOp Go.UnOp.not 4 (Go.Operand.tmp 66), type := 4, pos := "term.go:264", after := #[{ on := 10, ground := Go.Ground.data }], guard := none }]
def spk_F (w0 : World) (g h i : Nat) (p q : Pl) (t u : Tm) (ga oa gd od m1 m2 : Nat) (qx qy : Pl) (x y : Tm) (r : Bool) : Nat → (Nat → Value) → Value → World → (Nat → Prop) → Prop := fun rix => match rix with
  | 0 => fun _ v _ _ => v = .pointer (some ⟨g, 7, none⟩)
  | 1 => fun _ v _ _ => v = .slice (some ⟨ga, oa, none⟩) m1 p.e
  | 2 => fun _ v _ _ => v = .int .i64 i
  | 3 => fun _ v _ _ => v = .pointer (some ⟨ga, oa + i * 8, none⟩)
  | 4 => fun _ v _ _ => v = tmV qx x
  | 5 => fun _ v _ _ => v = .pointer (some ⟨h, 7, none⟩)
  | 6 => fun _ v _ _ => v = .slice (some ⟨gd, od, none⟩) m2 q.e
  | 7 => fun _ v _ _ => v = .int .i64 i
  | 8 => fun _ v _ _ => v = .pointer (some ⟨gd, od + i * 8, none⟩)
  | 9 => fun _ v _ _ => v = tmV qy y
  | 10 => fun _ v _ _ => v = .bool r
  | 11 => fun _ v _ _ => v = .bool (!r)
  | _ => fun _ _ _ _ => True
def spk_C : Nat → List Nat := fun rix => match rix with
  | _ => []
theorem spk_nw2 : nwB spk_ops.toArray 2 = true := by kernel_rfl
theorem spk_nw3 : nwB spk_ops.toArray 3 = true := by kernel_rfl
theorem spk_nw5 : nwB spk_ops.toArray 5 = true := by kernel_rfl
set_option maxRecDepth 100000 in
set_option maxHeartbeats 8000000 in
theorem spk_obs (w0 : World) (g h i : Nat) (p q : Pl) (t u : Tm) (ga oa gd od m1 m2 : Nat) (qx qy : Pl) (x y : Tm) (r : Bool) (hx2 : w0.heap[g]? = some (tmO p t)) (hx3 : w0.heap[h]? = some (tmO q u)) (hpK : p.K = some ⟨ga, oa, none⟩) (hqK : q.K = some ⟨gd, od, none⟩) (hm1 : t.kids.length = m1) (hm2 : u.kids.length = m2) (hga : ga < w0.heap.size) (hgd : gd < w0.heap.size) (him1 : i < m1) (him2 : i < m2) (hpe : m1 ≤ 9223372036854775807) (hqe : m2 ≤ 9223372036854775807) (him9 : i ≤ 3) (ca0 : w0.cell? ⟨ga, oa + i * 8, none⟩ = some (.int .i64 x.kind)) (ca1 : w0.cell? ⟨ga, oa + i * 8 + 1, none⟩ = some (.int .i64 x.num)) (ca2 : w0.cell? ⟨ga, oa + i * 8 + 2, none⟩ = some (.string x.name)) (ca3 : w0.cell? ⟨ga, oa + i * 8 + 3, none⟩ = some (.int .i64 x.lv.kind)) (ca4 : w0.cell? ⟨ga, oa + i * 8 + 4, none⟩ = some (.int .i64 x.lv.num)) (ca5 : w0.cell? ⟨ga, oa + i * 8 + 5, none⟩ = some (.slice qx.A x.lv.kids.length qx.c)) (ca6 : w0.cell? ⟨ga, oa + i * 8 + 6, none⟩ = some (.slice qx.B x.ls.length qx.d)) (ca7 : w0.cell? ⟨ga, oa + i * 8 + 7, none⟩ = some (.slice qx.K x.kids.length qx.e)) (cb0 : w0.cell? ⟨gd, od + i * 8, none⟩ = some (.int .i64 y.kind)) (cb1 : w0.cell? ⟨gd, od + i * 8 + 1, none⟩ = some (.int .i64 y.num)) (cb2 : w0.cell? ⟨gd, od + i * 8 + 2, none⟩ = some (.string y.name)) (cb3 : w0.cell? ⟨gd, od + i * 8 + 3, none⟩ = some (.int .i64 y.lv.kind)) (cb4 : w0.cell? ⟨gd, od + i * 8 + 4, none⟩ = some (.int .i64 y.lv.num)) (cb5 : w0.cell? ⟨gd, od + i * 8 + 5, none⟩ = some (.slice qy.A y.lv.kids.length qy.c)) (cb6 : w0.cell? ⟨gd, od + i * 8 + 6, none⟩ = some (.slice qy.B y.ls.length qy.d)) (cb7 : w0.cell? ⟨gd, od + i * 8 + 7, none⟩ = some (.slice qy.K y.kids.length qy.e)) (hIH : ∀ w, Below w0.heap.size w0 w → Calls Try.prog 85 #[tmV qx x, tmV qy y] w fun e w' => e = .returned (.bool r) ∧ Below w.heap.size w w') (Q : Exit → Act → World → Prop) (a0 : Act) (hi2 : a0.tmps.getD 2 undef = .pointer (some ⟨g, 0, none⟩)) (hi3 : a0.tmps.getD 3 undef = .pointer (some ⟨h, 0, none⟩)) (hi5 : a0.tmps.getD 5 undef = .int .i64 i) :
    ObsE Try.prog spk_ops.toArray Q (est2 0 0 (fun _ => False) (fun _ => False)) spk_C (spk_F w0 g h i p q t u ga oa gd od m1 m2 qx qy x y r) a0 w0 spk_ops.toArray.toList 0 := by
  have nw2 := spk_nw2
  have nw3 := spk_nw3
  have nw5 := spk_nw5
  refine ⟨?_, ?_, ?_, ?_, ?_, ?_, ?_, ?_, ?_, ?_, ?_, ?_, trivial⟩
  · refine ⟨⟨fun τ => stableE_det _, leans_not⟩, ?_⟩
    intro a w O hk
    have e2 : a.eval (.tmp 2) = .pointer (some ⟨g, 0, none⟩) := (hk.init 2 (initialB_of_nw nw2)).trans hi2
    have x2 := hk.world.still hx2 (fun ⟨_, h⟩ => h.elim And.right And.right)
    have x3 := hk.world.still hx3 (fun ⟨_, h⟩ => h.elim And.right And.right)
    have hcc : ∀ j, w.cell? ⟨ga, j, none⟩ = w0.cell? ⟨ga, j, none⟩ := fun j => cell_same ((hk.world.below (fun k ⟨_, h⟩ => h.elim (fun h => h.2.elim) fun h => h.2.elim) (Nat.le_refl _)).block _ hga)
    have hcd : ∀ j, w.cell? ⟨gd, j, none⟩ = w0.cell? ⟨gd, j, none⟩ := fun j => cell_same ((hk.world.below (fun k ⟨_, h⟩ => h.elim (fun h => h.2.elim) fun h => h.2.elim) (Nat.le_refl _)).block _ hgd)
    exact obE_run (wanted_none rfl) (by unfold execOp; simp only []; rw [e2]; go_simp) rfl
  · refine ⟨⟨fun τ => stableE_det _, leans_not⟩, ?_⟩
    intro a w O hk
    have e56 : a.eval (.tmp 56) = .pointer (some ⟨g, 7, none⟩) := hk.fact 0 _ 56 rfl rfl rfl rfl
    have x2 := hk.world.still hx2 (fun ⟨_, h⟩ => h.elim And.right And.right)
    have x3 := hk.world.still hx3 (fun ⟨_, h⟩ => h.elim And.right And.right)
    have hcc : ∀ j, w.cell? ⟨ga, j, none⟩ = w0.cell? ⟨ga, j, none⟩ := fun j => cell_same ((hk.world.below (fun k ⟨_, h⟩ => h.elim (fun h => h.2.elim) fun h => h.2.elim) (Nat.le_refl _)).block _ hga)
    have hcd : ∀ j, w.cell? ⟨gd, j, none⟩ = w0.cell? ⟨gd, j, none⟩ := fun j => cell_same ((hk.world.below (fun k ⟨_, h⟩ => h.elim (fun h => h.2.elim) fun h => h.2.elim) (Nat.le_refl _)).block _ hgd)
    obtain ⟨p0, p1, p2, p3, p4, p5, p6, p7⟩ := row8 x2
    rw [hpK, hm1] at p7
    exact obE_run (wanted_none rfl) (by unfold execOp; simp only []; rw [e56]; go_simp) rfl
  · refine ⟨⟨fun τ => stableE_det _, leans_not⟩, ?_⟩
    intro a w O hk
    have e5 : a.eval (.tmp 5) = .int .i64 i := (hk.init 5 (initialB_of_nw nw5)).trans hi5
    exact toE (ob_move rfl e5 (wanted_none rfl) rfl)
  · refine ⟨⟨fun τ => stableE_det _, leans_not⟩, ?_⟩
    intro a w O hk
    have e57 : a.eval (.tmp 57) = .slice (some ⟨ga, oa, none⟩) m1 p.e := hk.fact 1 _ 57 rfl rfl rfl rfl
    have e58 : a.eval (.tmp 58) = .int .i64 i := hk.fact 2 _ 58 rfl rfl rfl rfl
    have x2 := hk.world.still hx2 (fun ⟨_, h⟩ => h.elim And.right And.right)
    have x3 := hk.world.still hx3 (fun ⟨_, h⟩ => h.elim And.right And.right)
    have hcc : ∀ j, w.cell? ⟨ga, j, none⟩ = w0.cell? ⟨ga, j, none⟩ := fun j => cell_same ((hk.world.below (fun k ⟨_, h⟩ => h.elim (fun h => h.2.elim) fun h => h.2.elim) (Nat.le_refl _)).block _ hga)
    have hcd : ∀ j, w.cell? ⟨gd, j, none⟩ = w0.cell? ⟨gd, j, none⟩ := fun j => cell_same ((hk.world.below (fun k ⟨_, h⟩ => h.elim (fun h => h.2.elim) fun h => h.2.elim) (Nat.le_refl _)).block _ hgd)
    exact obE_run (wanted_none rfl) (by unfold execOp; simp only []; rw [e57, e58]; go_simp) rfl
  · refine ⟨⟨fun τ => stableE_det _, leans_not⟩, ?_⟩
    intro a w O hk
    have e59 : a.eval (.tmp 59) = .pointer (some ⟨ga, oa + i * 8, none⟩) := hk.fact 3 _ 59 rfl rfl rfl rfl
    have x2 := hk.world.still hx2 (fun ⟨_, h⟩ => h.elim And.right And.right)
    have x3 := hk.world.still hx3 (fun ⟨_, h⟩ => h.elim And.right And.right)
    have hcc : ∀ j, w.cell? ⟨ga, j, none⟩ = w0.cell? ⟨ga, j, none⟩ := fun j => cell_same ((hk.world.below (fun k ⟨_, h⟩ => h.elim (fun h => h.2.elim) fun h => h.2.elim) (Nat.le_refl _)).block _ hga)
    have hcd : ∀ j, w.cell? ⟨gd, j, none⟩ = w0.cell? ⟨gd, j, none⟩ := fun j => cell_same ((hk.world.below (fun k ⟨_, h⟩ => h.elim (fun h => h.2.elim) fun h => h.2.elim) (Nat.le_refl _)).block _ hgd)
    have r0 := (hcc _).trans ca0
    have r1 := (hcc _).trans ca1
    have r2 := (hcc _).trans ca2
    have r3 := (hcc _).trans ca3
    have r4 := (hcc _).trans ca4
    have r5 := (hcc _).trans ca5
    have r6 := (hcc _).trans ca6
    have r7 := (hcc _).trans ca7
    exact obE_run (wanted_none rfl) (by unfold execOp; simp only []; rw [e59]; go_simp; rfl) rfl
  · refine ⟨⟨fun τ => stableE_det _, leans_not⟩, ?_⟩
    intro a w O hk
    have e3 : a.eval (.tmp 3) = .pointer (some ⟨h, 0, none⟩) := (hk.init 3 (initialB_of_nw nw3)).trans hi3
    have x2 := hk.world.still hx2 (fun ⟨_, h⟩ => h.elim And.right And.right)
    have x3 := hk.world.still hx3 (fun ⟨_, h⟩ => h.elim And.right And.right)
    have hcc : ∀ j, w.cell? ⟨ga, j, none⟩ = w0.cell? ⟨ga, j, none⟩ := fun j => cell_same ((hk.world.below (fun k ⟨_, h⟩ => h.elim (fun h => h.2.elim) fun h => h.2.elim) (Nat.le_refl _)).block _ hga)
    have hcd : ∀ j, w.cell? ⟨gd, j, none⟩ = w0.cell? ⟨gd, j, none⟩ := fun j => cell_same ((hk.world.below (fun k ⟨_, h⟩ => h.elim (fun h => h.2.elim) fun h => h.2.elim) (Nat.le_refl _)).block _ hgd)
    exact obE_run (wanted_none rfl) (by unfold execOp; simp only []; rw [e3]; go_simp) rfl
  · refine ⟨⟨fun τ => stableE_det _, leans_not⟩, ?_⟩
    intro a w O hk
    have e61 : a.eval (.tmp 61) = .pointer (some ⟨h, 7, none⟩) := hk.fact 5 _ 61 rfl rfl rfl rfl
    have x2 := hk.world.still hx2 (fun ⟨_, h⟩ => h.elim And.right And.right)
    have x3 := hk.world.still hx3 (fun ⟨_, h⟩ => h.elim And.right And.right)
    have hcc : ∀ j, w.cell? ⟨ga, j, none⟩ = w0.cell? ⟨ga, j, none⟩ := fun j => cell_same ((hk.world.below (fun k ⟨_, h⟩ => h.elim (fun h => h.2.elim) fun h => h.2.elim) (Nat.le_refl _)).block _ hga)
    have hcd : ∀ j, w.cell? ⟨gd, j, none⟩ = w0.cell? ⟨gd, j, none⟩ := fun j => cell_same ((hk.world.below (fun k ⟨_, h⟩ => h.elim (fun h => h.2.elim) fun h => h.2.elim) (Nat.le_refl _)).block _ hgd)
    obtain ⟨p0, p1, p2, p3, p4, p5, p6, p7⟩ := row8 x3
    rw [hqK, hm2] at p7
    exact obE_run (wanted_none rfl) (by unfold execOp; simp only []; rw [e61]; go_simp) rfl
  · refine ⟨⟨fun τ => stableE_det _, leans_not⟩, ?_⟩
    intro a w O hk
    have e5 : a.eval (.tmp 5) = .int .i64 i := (hk.init 5 (initialB_of_nw nw5)).trans hi5
    exact toE (ob_move rfl e5 (wanted_none rfl) rfl)
  · refine ⟨⟨fun τ => stableE_det _, leans_not⟩, ?_⟩
    intro a w O hk
    have e62 : a.eval (.tmp 62) = .slice (some ⟨gd, od, none⟩) m2 q.e := hk.fact 6 _ 62 rfl rfl rfl rfl
    have e63 : a.eval (.tmp 63) = .int .i64 i := hk.fact 7 _ 63 rfl rfl rfl rfl
    have x2 := hk.world.still hx2 (fun ⟨_, h⟩ => h.elim And.right And.right)
    have x3 := hk.world.still hx3 (fun ⟨_, h⟩ => h.elim And.right And.right)
    have hcc : ∀ j, w.cell? ⟨ga, j, none⟩ = w0.cell? ⟨ga, j, none⟩ := fun j => cell_same ((hk.world.below (fun k ⟨_, h⟩ => h.elim (fun h => h.2.elim) fun h => h.2.elim) (Nat.le_refl _)).block _ hga)
    have hcd : ∀ j, w.cell? ⟨gd, j, none⟩ = w0.cell? ⟨gd, j, none⟩ := fun j => cell_same ((hk.world.below (fun k ⟨_, h⟩ => h.elim (fun h => h.2.elim) fun h => h.2.elim) (Nat.le_refl _)).block _ hgd)
    exact obE_run (wanted_none rfl) (by unfold execOp; simp only []; rw [e62, e63]; go_simp) rfl
  · refine ⟨⟨fun τ => stableE_det _, leans_not⟩, ?_⟩
    intro a w O hk
    have e64 : a.eval (.tmp 64) = .pointer (some ⟨gd, od + i * 8, none⟩) := hk.fact 8 _ 64 rfl rfl rfl rfl
    have x2 := hk.world.still hx2 (fun ⟨_, h⟩ => h.elim And.right And.right)
    have x3 := hk.world.still hx3 (fun ⟨_, h⟩ => h.elim And.right And.right)
    have hcc : ∀ j, w.cell? ⟨ga, j, none⟩ = w0.cell? ⟨ga, j, none⟩ := fun j => cell_same ((hk.world.below (fun k ⟨_, h⟩ => h.elim (fun h => h.2.elim) fun h => h.2.elim) (Nat.le_refl _)).block _ hga)
    have hcd : ∀ j, w.cell? ⟨gd, j, none⟩ = w0.cell? ⟨gd, j, none⟩ := fun j => cell_same ((hk.world.below (fun k ⟨_, h⟩ => h.elim (fun h => h.2.elim) fun h => h.2.elim) (Nat.le_refl _)).block _ hgd)
    have r0 := (hcd _).trans cb0
    have r1 := (hcd _).trans cb1
    have r2 := (hcd _).trans cb2
    have r3 := (hcd _).trans cb3
    have r4 := (hcd _).trans cb4
    have r5 := (hcd _).trans cb5
    have r6 := (hcd _).trans cb6
    have r7 := (hcd _).trans cb7
    exact obE_run (wanted_none rfl) (by unfold execOp; simp only []; rw [e64]; go_simp; rfl) rfl
  · refine ⟨⟨fun τ => stableE_det _, leans_not⟩, ?_⟩
    intro a w O hk
    have e60 : a.eval (.tmp 60) = tmV qx x := hk.fact 4 _ 60 rfl rfl rfl rfl
    have e65 : a.eval (.tmp 65) = tmV qy y := hk.fact 9 _ 65 rfl rfl rfl rfl
    have x2 := hk.world.still hx2 (fun ⟨_, h⟩ => h.elim And.right And.right)
    have x3 := hk.world.still hx3 (fun ⟨_, h⟩ => h.elim And.right And.right)
    have hcc : ∀ j, w.cell? ⟨ga, j, none⟩ = w0.cell? ⟨ga, j, none⟩ := fun j => cell_same ((hk.world.below (fun k ⟨_, h⟩ => h.elim (fun h => h.2.elim) fun h => h.2.elim) (Nat.le_refl _)).block _ hga)
    have hcd : ∀ j, w.cell? ⟨gd, j, none⟩ = w0.cell? ⟨gd, j, none⟩ := fun j => cell_same ((hk.world.below (fun k ⟨_, h⟩ => h.elim (fun h => h.2.elim) fun h => h.2.elim) (Nat.le_refl _)).block _ hgd)
    exact obE_callV #[tmV qx x, tmV qy y] rfl rfl rfl rfl (by simp only [List.map_cons, List.map_nil]; rw [e60, e65]) (wanted_none rfl) (hIH w (hk.world.below (fun k ⟨_, h⟩ => h.elim (fun h => h.2.elim) fun h => h.2.elim) (Nat.le_refl _)))
  · refine ⟨⟨fun τ => stableE_det _, leans_not⟩, ?_⟩
    intro a w O hk
    have e66 : a.eval (.tmp 66) = .bool r := hk.fact 10 _ 66 rfl rfl rfl rfl
    have x2 := hk.world.still hx2 (fun ⟨_, h⟩ => h.elim And.right And.right)
    have x3 := hk.world.still hx3 (fun ⟨_, h⟩ => h.elim And.right And.right)
    have hcc : ∀ j, w.cell? ⟨ga, j, none⟩ = w0.cell? ⟨ga, j, none⟩ := fun j => cell_same ((hk.world.below (fun k ⟨_, h⟩ => h.elim (fun h => h.2.elim) fun h => h.2.elim) (Nat.le_refl _)).block _ hga)
    have hcd : ∀ j, w.cell? ⟨gd, j, none⟩ = w0.cell? ⟨gd, j, none⟩ := fun j => cell_same ((hk.world.below (fun k ⟨_, h⟩ => h.elim (fun h => h.2.elim) fun h => h.2.elim) (Nat.le_refl _)).block _ hgd)
    exact obE_run (wanted_none rfl) (by unfold execOp; simp only []; rw [e66]; go_simp) rfl
set_option maxRecDepth 100000 in
set_option maxHeartbeats 8000000 in
theorem spk_region {Q : Exit → Act → World → Prop} {id : Nat} (w0 : World) (g h i : Nat) (p q : Pl) (t u : Tm) (ga oa gd od m1 m2 : Nat) (qx qy : Pl) (x y : Tm) (r : Bool) {s0 s1 s4 s6 s7 s8 s9 s10 s11 s12 s13 s14 s15 s16 s17 s18 s19 s20 s21 s22 s23 s24 s25 s26 s27 s28 s29 s30 s31 s32 s33 s34 s35 s36 s37 s38 s39 s40 s41 s42 s43 s44 s45 s46 s47 s48 s49 s50 s51 s52 s53 s54 s55 s56 s57 s58 s59 s60 s61 s62 s63 s64 s65 s66 s67 s68 : Value} (hx2 : w0.heap[g]? = some (tmO p t)) (hx3 : w0.heap[h]? = some (tmO q u)) (hpK : p.K = some ⟨ga, oa, none⟩) (hqK : q.K = some ⟨gd, od, none⟩) (hm1 : t.kids.length = m1) (hm2 : u.kids.length = m2) (hga : ga < w0.heap.size) (hgd : gd < w0.heap.size) (him1 : i < m1) (him2 : i < m2) (hpe : m1 ≤ 9223372036854775807) (hqe : m2 ≤ 9223372036854775807) (him9 : i ≤ 3) (ca0 : w0.cell? ⟨ga, oa + i * 8, none⟩ = some (.int .i64 x.kind)) (ca1 : w0.cell? ⟨ga, oa + i * 8 + 1, none⟩ = some (.int .i64 x.num)) (ca2 : w0.cell? ⟨ga, oa + i * 8 + 2, none⟩ = some (.string x.name)) (ca3 : w0.cell? ⟨ga, oa + i * 8 + 3, none⟩ = some (.int .i64 x.lv.kind)) (ca4 : w0.cell? ⟨ga, oa + i * 8 + 4, none⟩ = some (.int .i64 x.lv.num)) (ca5 : w0.cell? ⟨ga, oa + i * 8 + 5, none⟩ = some (.slice qx.A x.lv.kids.length qx.c)) (ca6 : w0.cell? ⟨ga, oa + i * 8 + 6, none⟩ = some (.slice qx.B x.ls.length qx.d)) (ca7 : w0.cell? ⟨ga, oa + i * 8 + 7, none⟩ = some (.slice qx.K x.kids.length qx.e)) (cb0 : w0.cell? ⟨gd, od + i * 8, none⟩ = some (.int .i64 y.kind)) (cb1 : w0.cell? ⟨gd, od + i * 8 + 1, none⟩ = some (.int .i64 y.num)) (cb2 : w0.cell? ⟨gd, od + i * 8 + 2, none⟩ = some (.string y.name)) (cb3 : w0.cell? ⟨gd, od + i * 8 + 3, none⟩ = some (.int .i64 y.lv.kind)) (cb4 : w0.cell? ⟨gd, od + i * 8 + 4, none⟩ = some (.int .i64 y.lv.num)) (cb5 : w0.cell? ⟨gd, od + i * 8 + 5, none⟩ = some (.slice qy.A y.lv.kids.length qy.c)) (cb6 : w0.cell? ⟨gd, od + i * 8 + 6, none⟩ = some (.slice qy.B y.ls.length qy.d)) (cb7 : w0.cell? ⟨gd, od + i * 8 + 7, none⟩ = some (.slice qy.K y.kids.length qy.e)) (hIH : ∀ w, Below w0.heap.size w0 w → Calls Try.prog 85 #[tmV qx x, tmV qy y] w fun e w' => e = .returned (.bool r) ∧ Below w.heap.size w w')
    (hend : ∀ (w' : World), Chg (fun k => False ∨ False) w0 w' → Q .normal { tmps := (s0 :: s1 :: (.pointer (some ⟨g, 0, none⟩)) :: (.pointer (some ⟨h, 0, none⟩)) :: s4 :: (.int .i64 i) :: s6 :: s7 :: s8 :: s9 :: s10 :: s11 :: s12 :: s13 :: s14 :: s15 :: s16 :: s17 :: s18 :: s19 :: s20 :: s21 :: s22 :: s23 :: s24 :: s25 :: s26 :: s27 :: s28 :: s29 :: s30 :: s31 :: s32 :: s33 :: s34 :: s35 :: s36 :: s37 :: s38 :: s39 :: s40 :: s41 :: s42 :: s43 :: s44 :: s45 :: s46 :: s47 :: s48 :: s49 :: s50 :: s51 :: s52 :: s53 :: s54 :: s55 :: (.pointer (some ⟨g, 7, none⟩)) :: (.slice (some ⟨ga, oa, none⟩) m1 p.e) :: (.int .i64 i) :: (.pointer (some ⟨ga, oa + i * 8, none⟩)) :: (tmV qx x) :: (.pointer (some ⟨h, 7, none⟩)) :: (.slice (some ⟨gd, od, none⟩) m2 q.e) :: (.int .i64 i) :: (.pointer (some ⟨gd, od + i * 8, none⟩)) :: (tmV qy y) :: (.bool r) :: (.bool (!r)) :: s68 :: [] : List Value).toArray, defers := [] } w') :
    (Code.region id spk_ops.toArray true).wp Try.prog Q { tmps := (s0 :: s1 :: (.pointer (some ⟨g, 0, none⟩)) :: (.pointer (some ⟨h, 0, none⟩)) :: s4 :: (.int .i64 i) :: s6 :: s7 :: s8 :: s9 :: s10 :: s11 :: s12 :: s13 :: s14 :: s15 :: s16 :: s17 :: s18 :: s19 :: s20 :: s21 :: s22 :: s23 :: s24 :: s25 :: s26 :: s27 :: s28 :: s29 :: s30 :: s31 :: s32 :: s33 :: s34 :: s35 :: s36 :: s37 :: s38 :: s39 :: s40 :: s41 :: s42 :: s43 :: s44 :: s45 :: s46 :: s47 :: s48 :: s49 :: s50 :: s51 :: s52 :: s53 :: s54 :: s55 :: s56 :: s57 :: s58 :: s59 :: s60 :: s61 :: s62 :: s63 :: s64 :: s65 :: s66 :: s67 :: s68 :: [] : List Value).toArray, defers := [] } w0 := by
  refine wp_region_est (by kernel_rfl) (est2 0 0 (fun _ => False) (fun _ => False)) spk_C (spk_F w0 g h i p q t u ga oa gd od m1 m2 qx qy x y r) (est2_dis (fun _ h _ => h)) (est2_range (fun _ h => h.elim) (fun _ h => h.elim)) (by rfl) (by kernel_rfl) (spk_obs w0.drew g h i p q t u ga oa gd od m1 m2 qx qy x y r hx2 hx3 hpK hqK hm1 hm2 hga hgd him1 him2 hpe hqe him9 ca0 ca1 ca2 ca3 ca4 ca5 ca6 ca7 cb0 cb1 cb2 cb3 cb4 cb5 cb6 cb7 (fun w h => hIH w (below_undrew h)) _ _ rfl rfl rfl) ?_
  intro a w' O hd hs hb hf hf2 ha hsame
  have hl := slots_eq (ops := spk_ops.toArray) [(56, .pointer (some ⟨g, 7, none⟩)), (57, .slice (some ⟨ga, oa, none⟩) m1 p.e), (58, .int .i64 i), (59, .pointer (some ⟨ga, oa + i * 8, none⟩)), (60, tmV qx x), (61, .pointer (some ⟨h, 7, none⟩)), (62, .slice (some ⟨gd, od, none⟩) m2 q.e), (63, .int .i64 i), (64, .pointer (some ⟨gd, od + i * 8, none⟩)), (65, tmV qy y), (66, .bool r), (67, .bool (!r))] (show a.tmps.size = 69 from hs) (fun i h => hsame i h) ⟨(hf 0 _ 56 rfl rfl (by decide)).1, (hf 1 _ 57 rfl rfl (by decide)).1, (hf 2 _ 58 rfl rfl (by decide)).1, (hf 3 _ 59 rfl rfl (by decide)).1, (hf 4 _ 60 rfl rfl (by decide)).1, (hf 5 _ 61 rfl rfl (by decide)).1, (hf 6 _ 62 rfl rfl (by decide)).1, (hf 7 _ 63 rfl rfl (by decide)).1, (hf 8 _ 64 rfl rfl (by decide)).1, (hf 9 _ 65 rfl rfl (by decide)).1, (hf 10 _ 66 rfl rfl (by decide)).1, (hf 11 _ 67 rfl rfl (by decide)).1, trivial⟩ (by kernel_rfl)
  obtain ⟨tmps, defers⟩ := a
  obtain rfl : defers = [] := hd
  have hl' : tmps = _ := hl
  rw [hl']
  have hb' := est2_chg hb
  refine Eq.mp ?_ (hend w' ⟨hb'.os, hb'.tape, hb'.output, hb'.size, hb'.block⟩)
  kernel_rfl

end Go.Proofs.Ytdboloabpjmgaaa

/-! SeW -/
namespace Go.Proofs.Ytdboloabpjmgaaa
open Go.RowKit Go.Proofs.YtdboloabpjmgaaaW.PrintWords Go.RegionInvYtdboloabpjmgaaa Go.RegionEYtdboloabpjmgaaa

theorem equal_at (A B : Option Addr) (c c' m m' : Nat) (k n k' n' : Int) (a b : Lv) (w : World) (hk : a.kind = k) (hn : a.num = n) (hm : a.kids.length = m) (hk' : b.kind = k') (hn' : b.num = n') (hm' : b.kids.length = m') (ha : LvIn w w.heap.size A c a) (hb : LvIn w w.heap.size B c' b) :
    Calls Try.prog 106 #[.agg #[.int .i64 k, .int .i64 n, .slice A m c], .agg #[.int .i64 k', .int .i64 n', .slice B m' c']] w fun e w' => e = .returned (.bool (eqP a b)) ∧ Below w.heap.size w w' := by
  subst hk hn hm hk' hn' hm'
  exact equal_calls A B c c' a b w ha hb
theorem lvsEq_len : ∀ {xs ys : List Lv}, xs.length ≠ ys.length → lvsEq xs ys = false
  | [], [], h => absurd rfl h
  | [], _ :: _, _ => rfl
  | _ :: _, [], _ => rfl
  | x :: r, y :: s, h => by
    show (eqP x y && lvsEq r s) = false
    rw [lvsEq_len (xs := r) (ys := s) (by simpa using h), Bool.and_false]
theorem lvsEq_cons (x y : Lv) (r s : List Lv) : lvsEq (x :: r) (y :: s) = (eqP x y && lvsEq r s) := rfl
theorem drop_lv {ks : List Lv} {i : Nat} {x : Lv} (h : ks[i]? = some x) : ks.drop i = x :: ks.drop (i + 1) := by
  obtain ⟨hl, rfl⟩ := List.getElem?_eq_some_iff.1 h
  exact List.drop_eq_getElem_cons hl
set_option maxRecDepth 100000 in
set_option maxHeartbeats 4000000 in
theorem eqf_calls (A B : Option Addr) (n m cA cB : Nat) (xs ys : List Lv) (w : World) (hx : LvIn w w.heap.size A cA (.mk 0 0 xs)) (hy : LvIn w w.heap.size B cB (.mk 0 0 ys)) (hn : xs.length = n) (hm : ys.length = m) :
    Calls Try.prog 107 #[.slice A n cA, .slice B m cB, .func (.func 106) #[] #[]] w fun e w' => e = .returned (.bool (lvsEq xs ys)) ∧ Below w.heap.size w w' := by
  have HX := Aside0.mk hx
  have HY := Aside0.mk hy
  have hlx := hx.len
  have hly := hy.len
  simp only [Lv.kids] at hlx hly
  rw [hn] at hlx
  rw [hm] at hly
  have HN := Aside0.mk hn
  have HM := Aside0.mk hm
  clear hx hy hn hm
  go_enter Try.func107, Try.ntmps107
  by_cases hnm : n = m
  · subst hnm
    have hb : ((n : Int) != (n : Int)) = false := by simp
    go_wp2
    go_loopw [17] (fun i wr => ∃ k : Nat, i = .int .i64 k ∧ k ≤ n ∧ Aside0 (lvsEq (xs.drop k) (ys.drop k) = lvsEq xs ys) ∧ Aside0 (Below w.heap.size w wr)) (fun i _ => n - (intOf i).toNat)
    case atStart => exact ⟨0, rfl, Nat.zero_le _, ⟨rfl⟩, ⟨Below.refl _ _⟩⟩
    case round =>
      obtain ⟨k, rfl, hk, HK, HB⟩ := hrel
      by_cases hlt : k < n
      · obtain ⟨x, hx⟩ : ∃ x, xs[k]? = some x := ⟨_, List.getElem?_eq_getElem (by rw [HN.out]; exact hlt)⟩
        obtain ⟨y, hy⟩ : ∃ y, ys[k]? = some y := ⟨_, List.getElem?_eq_getElem (by rw [HM.out]; exact hlt)⟩
        obtain ⟨A', c', hcs, hin⟩ := (LvIn.stay HX.out HB.out).kid k x hx
        obtain ⟨B', d', hct, hin2⟩ := (LvIn.stay HY.out HB.out).kid k y hy
        obtain ⟨ad, rfl, d1, d2, d3⟩ := hcs.facts
        obtain ⟨bd, rfl, f1, f2, f3⟩ := hct.facts
        have HDX := Aside0.mk (drop_lv hx)
        have HDY := Aside0.mk (drop_lv hy)
        have HXI := Aside0.mk hin.all
        have HYI := Aside0.mk hin2.all
        obtain ⟨xk, hxk⟩ : ∃ z, x.kind = z := ⟨_, rfl⟩
        obtain ⟨xn, hxn⟩ : ∃ z, x.num = z := ⟨_, rfl⟩
        obtain ⟨xm, hxm⟩ : ∃ z, x.kids.length = z := ⟨_, rfl⟩
        obtain ⟨yk, hyk⟩ : ∃ z, y.kind = z := ⟨_, rfl⟩
        obtain ⟨yn, hyn⟩ : ∃ z, y.num = z := ⟨_, rfl⟩
        obtain ⟨ym, hym⟩ : ∃ z, y.kids.length = z := ⟨_, rfl⟩
        rw [hxk] at d1; rw [hxn] at d2; rw [hxm] at d3
        rw [hyk] at f1; rw [hyn] at f2; rw [hym] at f3
        have HQ := Aside0.mk (And.intro hxk (And.intro hxn (And.intro hxm (And.intro hyk (And.intro hyn hym)))))
        have hce : ∀ (o : Obj) (p : Addr) (v : Value), wr.cell? p = some v → (wr.alloc o).cell? p = some v := fun o p v hv => ((below_alloc (Below.refl wr.heap.size wr) o).cell (World.block_lt_of_cell? wr _ hv)).trans hv
        have g1 := hce (.cells #[.int .i64 xk, .int .i64 xn, .slice A' xm c'] 25 (0, 0)) _ _ f1
        have g2 := hce (.cells #[.int .i64 xk, .int .i64 xn, .slice A' xm c'] 25 (0, 0)) _ _ f2
        have g3 := hce (.cells #[.int .i64 xk, .int .i64 xn, .slice A' xm c'] 25 (0, 0)) _ _ f3
        clear hcs hct hin hin2 hx hy hxk hxn hxm hyk hyn hym hce
        go_upto_region 6 with (fail)
        obtain ⟨W1, hW1⟩ : ∃ W1, W1 = wr.alloc (.cells #[.int .i64 xk, .int .i64 xn, .slice A' xm c'] 25 (0, 0)) := ⟨_, rfl⟩
        rw [← hW1] at g1 g2 g3
        have hb1 : Below wr.heap.size wr W1 := by rw [hW1]; exact below_alloc (Below.refl _ _) _
        have hx1 : W1.heap[wr.heap.size]? = some (.cells #[.int .i64 xk, .int .i64 xn, .slice A' xm c'] 25 (0, 0)) := by rw [hW1]; exact blk_new _ _
        rw [← hW1]
        clear hW1 d1 d2 d3 f1 f2 f3
        go_upto_region 7 with (fail)
        obtain ⟨W2, hW2⟩ : ∃ W2, W2 = W1.alloc (.cells #[.int .i64 yk, .int .i64 yn, .slice B' ym d'] 25 (0, 0)) := ⟨_, rfl⟩
        have hb2 : Below W1.heap.size W1 W2 := by rw [hW2]; exact below_alloc (Below.refl _ _) _
        have hx2 : W2.heap[wr.heap.size]? = some (.cells #[.int .i64 xk, .int .i64 xn, .slice A' xm c'] 25 (0, 0)) := (hb2.block _ (blk_lt hx1)).trans hx1
        have hy2 : W2.heap[W1.heap.size]? = some (.cells #[.int .i64 yk, .int .i64 yn, .slice B' ym d'] 25 (0, 0)) := by rw [hW2]; exact blk_new _ _
        have HB2 := Aside0.mk (below_then HB.out HB.out.size (below_then hb1 hb1.size hb2))
        have HXJ := Aside0.mk ((LvS.later HXI.out (below_then hb1 hb1.size hb2)).all)
        have HYJ := Aside0.mk ((LvS.later HYI.out (below_then hb1 hb1.size hb2)).all)
        obtain ⟨r0, r1, r2, -, -, -⟩ := row3 hx2
        obtain ⟨s0, s1, s2, -, -, -⟩ := row3 hy2
        rw [← hW2]
        clear hW2 hb1 hb2 hx1 hx2 hy2 g1 g2 g3
        have hcall := HQ.out
        have HCE := Aside0.mk (equal_at A' B' c' d' xm ym xk xn yk yn x y W2 hcall.1 hcall.2.1 hcall.2.2.1 hcall.2.2.2.1 hcall.2.2.2.2.1 hcall.2.2.2.2.2 HXJ.out HYJ.out)
        clear hcall
        cases he : eqP x y with
        | true =>
          have HV := Aside0.mk he
          have HK2 := Aside0.mk (show lvsEq (xs.drop (k + 1)) (ys.drop (k + 1)) = lvsEq xs ys by rw [← HK.out, HDX.out, HDY.out, lvsEq_cons, he, Bool.true_and])
          clear he
          go_wp2_with (go_at_call 106; go_must (refine HCE.out.mono ?_; rintro e w3 ⟨rfl, hb⟩; rw [HV.out]; have HB3 := Aside0.mk (below_then HB2.out HB2.out.size hb); clear hb))
          go_roundw
          case rel => exact ⟨k + 1, by go_num, by omega, HK2, HB3⟩
          case measure => (simp [intOf]; try omega)
        | false =>
          have HV := Aside0.mk he
          have HK2 := Aside0.mk (show lvsEq xs ys = false by rw [← HK.out, HDX.out, HDY.out, lvsEq_cons, he, Bool.false_and])
          clear he
          go_wp2_with (go_at_call 106; go_must (refine HCE.out.mono ?_; rintro e w3 ⟨rfl, hb⟩; rw [HV.out]; have HB3 := Aside0.mk (below_then HB2.out HB2.out.size hb); clear hb))
          go_ret
          rw [HK2.out]
          exact ⟨rfl, HB3.out⟩
      · obtain rfl : k = n := by omega
        have hlt' : decide ((k : Int) < k) = false := by simp
        have HZ := Aside0.mk (show lvsEq xs ys = true by rw [← HK.out, List.drop_of_length_le (by rw [HN.out]; exact Nat.le_refl _), List.drop_of_length_le (by rw [HM.out]; exact Nat.le_refl _)]; rfl)
        go_wp2
        go_ret
        rw [HZ.out]
        exact ⟨rfl, HB.out⟩
  · have hb : ((n : Int) != (m : Int)) = true := by simp; omega
    have HF := Aside0.mk (lvsEq_len (xs := xs) (ys := ys) (by rw [HN.out, HM.out]; exact hnm))
    clear hnm
    go_wp2
    go_ret
    rw [HF.out]
    exact ⟨rfl, Below.refl _ _⟩
theorem kind_leaf {t : Tm} (h : t.kind = 1 ∨ t.kind = 2 ∨ t.kind = 7) : nK t = 0 ∧ leafR t = false := by
  have ha : arZ t.kind = 0 := if_pos h
  refine ⟨?_, ?_⟩
  · unfold nK; rw [ha]; split <;> rfl
  · unfold leafR; rw [ha]; exact decide_eq_false (by omega)
theorem sm_kind {t u : Tm} (h : t.kind ≠ u.kind) : sameT t u = false := by rw [same_eq]; unfold hdB; rw [decide_eq_false h]; rfl
theorem leafR_leaf {t : Tm} (h : leafT t = true) (h1 : t.kind ≠ 1) (h2 : t.kind ≠ 2) (h7 : t.kind ≠ 7) : leafR t = true := by
  have h0 := leaf_nK h
  unfold leafR
  unfold nK at h0
  have ha : arZ t.kind ≠ 0 := by
    unfold arZ
    rw [if_neg (by omega)]
    split
    · omega
    · split <;> omega
  refine decide_eq_true ?_
  split at h0
  · exact .inr (by assumption)
  · exact .inl (by omega)
theorem sm_leaf {t u : Tm} (hk : t.kind = u.kind) (h : leafT t ≠ leafT u) : sameT t u = false := by
  have key : ∀ {a b : Tm}, a.kind = b.kind → leafT a = false → leafT b = true → leafR a = false ∧ leafR b = true := fun hk ha hb => by
    obtain ⟨k1, k2, k7⟩ := kind_node ha
    exact ⟨leafR_node ha, leafR_leaf hb (by rw [← hk]; exact k1) (by rw [← hk]; exact k2) (by rw [← hk]; exact k7)⟩
  rw [same_eq]
  unfold hdB
  cases ht : leafT t with
  | true =>
    cases hu : leafT u with
    | true => rw [ht, hu] at h; exact absurd rfl h
    | false => obtain ⟨e1, e2⟩ := key hk.symm hu ht; rw [e1, e2]; simp
  | false =>
    cases hu : leafT u with
    | true => obtain ⟨e1, e2⟩ := key hk ht hu; rw [e1, e2]; simp
    | false => rw [ht, hu] at h; exact absurd rfl h
theorem sm_var {t u : Tm} (hk : t.kind = u.kind) (k : t.kind = 1) : sameT t u = (t.num == u.num) := by
  obtain ⟨h1, h2⟩ := kind_leaf (t := t) (.inl k)
  obtain ⟨-, h3⟩ := kind_leaf (t := u) (.inl (by rw [← hk]; exact k))
  rw [same_leaf (leafT_of h1)]
  unfold hdB
  rw [decide_eq_true hk, h2, h3, if_pos k]
  rfl
theorem sm_sort {t u : Tm} (hk : t.kind = u.kind) (k : t.kind = 2) : sameT t u = eqP t.lv u.lv := by
  obtain ⟨h1, h2⟩ := kind_leaf (t := t) (.inr (.inl k))
  obtain ⟨-, h3⟩ := kind_leaf (t := u) (.inr (.inl (by rw [← hk]; exact k)))
  rw [same_leaf (leafT_of h1)]
  unfold hdB
  rw [decide_eq_true hk, h2, h3, if_neg (by omega), if_pos k]
  rfl
theorem sm_const {t u : Tm} (hk : t.kind = u.kind) (k : t.kind = 7) : sameT t u = ((t.name.toList == u.name.toList) && lvsEq t.ls u.ls) := by
  obtain ⟨h1, h2⟩ := kind_leaf (t := t) (.inr (.inr k))
  obtain ⟨-, h3⟩ := kind_leaf (t := u) (.inr (.inr (by rw [← hk]; exact k)))
  rw [same_leaf (leafT_of h1)]
  unfold hdB
  rw [decide_eq_true hk, h2, h3, if_neg (by omega), if_neg (by omega), if_pos k]
  simp
theorem sm_bare {t u : Tm} (hk : t.kind = u.kind) (h1 : t.kind ≠ 1) (h2 : t.kind ≠ 2) (h7 : t.kind ≠ 7) (ht : leafT t = true) (hu : leafT u = true) : sameT t u = true := by
  rw [same_leaf ht]
  unfold hdB
  rw [decide_eq_true hk, leafR_leaf ht h1 h2 h7, leafR_leaf hu (by rw [← hk]; exact h1) (by rw [← hk]; exact h2) (by rw [← hk]; exact h7)]
  rfl
def alls (t u : Tm) (xs : List (Fin (nK t))) : Bool := xs.all fun i => sameT (kidF t i) (u.kids.getD i.1 default)
theorem sm_node {t u : Tm} (hk : t.kind = u.kind) (ht : leafT t = false) (hu : leafT u = false) : sameT t u = alls t u (List.finRange (nK t)) := by
  rw [same_eq, hd_node ht hu hk, Bool.true_and]; rfl
theorem alls_cons (t u : Tm) (i : Fin (nK t)) (r : List (Fin (nK t))) : alls t u (i :: r) = (sameT (kidF t i) (u.kids.getD i.1 default) && alls t u r) := rfl
theorem nK_same {t u : Tm} (hk : t.kind = u.kind) (ht : leafT t = false) (hu : leafT u = false) : nK t = nK u := by
  have h1 := nK_ar (leaf_nK' ht)
  have h2 := nK_ar (leaf_nK' hu)
  rw [hk] at h1
  omega
theorem below_all {w W : World} {p : Pl} {t : Tm} (h : TmIn w w.heap.size p t) (hb : Below w.heap.size w W) : TmIn W W.heap.size p t := TmS.all (TmIn.stay h hb)
set_option maxRecDepth 100000 in
set_option maxHeartbeats 4000000 in
theorem tsame_calls (N : Nat) : ∀ (t : Tm), SizeOf.sizeOf t < N → ∀ (u : Tm) (p q : Pl) (w : World), TmIn w w.heap.size p t → TmIn w w.heap.size q u →
    Calls Try.prog 85 #[tmV p t, tmV q u] w fun e w' => e = .returned (.bool (sameT t u)) ∧ Below w.heap.size w w' := by
  induction N with
  | zero => intro t h; omega
  | succ N ih =>
    intro t hN u p q w hin hin2
    have IH := Aside0.mk ih
    have HNN := Aside0.mk hN
    have HIN := Aside0.mk hin
    have HIN2 := Aside0.mk hin2
    have hlt := hin.len
    have hlu := hin2.len
    have hlt9 : t.kids.length ≤ 9223372036854775807 := by omega
    have hlu9 : u.kids.length ≤ 9223372036854775807 := by omega
    have hfl := hin.ls.len
    have hfu := hin2.ls.len
    simp only [Lv.kids] at hfl hfu
    obtain ⟨W, hW⟩ : ∃ W, W = (w.alloc (tmO p t)).alloc (tmO q u) := ⟨_, rfl⟩
    have hb : Below w.heap.size w W := by rw [hW]; exact below_alloc (below_alloc (Below.refl _ _) _) _
    have HX := Aside0.mk (show W.heap[w.heap.size]? = some (tmO p t) by rw [hW]; exact box0 w _ _)
    have HY := Aside0.mk (show W.heap[w.heap.size + 1]? = some (tmO q u) by rw [hW]; exact box1 w _ _)
    have HB := Aside0.mk hb
    clear ih hN hin hin2 hb
    unfold tmV
    unfold tmO at hW
    go_enter Try.func85, Try.ntmps85
    go_upto_region 1 with (fail)
    rw [← hW]
    clear hW
    by_cases hkk : t.kind = u.kind
    · obtain ⟨la, hla⟩ : ∃ x, leafT t = x := ⟨_, rfl⟩
      obtain ⟨lb, hlb⟩ : ∃ x, leafT u = x := ⟨_, rfl⟩
      by_cases hll : la = lb
      · refine spy_region W w.heap.size (w.heap.size + 1) p q t u la lb false HX.out HY.out hkk hla hlb (by simp [hll]) ?_
        intro w1 hch
        have hb1 : Below W.heap.size W w1 := hch.below (fun _ h => h.elim False.elim False.elim) (Nat.le_refl _)
        have HB1 := Aside0.mk (below_then HB.out HB.out.size hb1)
        have HX1 := Aside0.mk ((hb1.block _ (blk_lt HX.out)).trans HX.out)
        have HY1 := Aside0.mk ((hb1.block _ (blk_lt HY.out)).trans HY.out)
        have HKK := Aside0.mk hkk
        have HLA := Aside0.mk hla
        have HLB := Aside0.mk hlb
        clear hch hb1 hkk hla hlb HX HY
        subst hll
        obtain ⟨p0, p1, p2, p3, p4, p5, p6, p7⟩ := row8 HX1.out
        obtain ⟨q0, q1, q2, q3, q4, q5, q6, q7⟩ := row8 HY1.out
        by_cases k1 : t.kind = 1
        · have b1 : (t.kind == 1) = true := by simp [k1]
          have HE := Aside0.mk (sm_var HKK.out k1)
          clear k1
          go_wp2
          go_ret
          rw [HE.out]
          exact ⟨rfl, HB1.out⟩
        · have b1 : (t.kind == 1) = false := by simp [k1]
          by_cases k2 : t.kind = 2
          · have b2 : (t.kind == 2) = true := by simp [k2]
            have HE := Aside0.mk (sm_sort HKK.out k2)
            clear k1 k2
            go_wp2_with (go_at_call 106; go_must (refine (equal_at p.A q.A p.c q.c _ _ _ _ _ _ t.lv u.lv w1 rfl rfl rfl rfl rfl rfl (below_all HIN.out HB1.out).lv.all (below_all HIN2.out HB1.out).lv.all).mono ?_; rintro e w2 ⟨rfl, hb⟩; have HB2 := Aside0.mk (below_then HB1.out HB1.out.size hb); clear hb))
            go_ret
            rw [HE.out]
            exact ⟨rfl, HB2.out⟩
          · have b2 : (t.kind == 2) = false := by simp [k2]
            by_cases k7 : t.kind = 7
            · have b7 : (t.kind == 7) = true := by simp [k7]
              have HE := Aside0.mk (sm_const HKK.out k7)
              clear k1 k2 k7
              cases hn : (t.name.toList == u.name.toList) with
              | true =>
                have HE2 := Aside0.mk (show sameT t u = lvsEq t.ls u.ls by rw [HE.out, hn, Bool.true_and])
                go_wp2_with (go_at_call 107; go_must (refine (eqf_calls p.B q.B _ _ p.d q.d t.ls u.ls w1 (below_all HIN.out HB1.out).ls.all (below_all HIN2.out HB1.out).ls.all rfl rfl).mono ?_; rintro e w2 ⟨rfl, hb⟩; have HB2 := Aside0.mk (below_then HB1.out HB1.out.size hb); clear hb))
                go_ret
                rw [HE2.out]
                exact ⟨rfl, HB2.out⟩
              | false =>
                have HE2 := Aside0.mk (show sameT t u = false by rw [HE.out, hn, Bool.false_and])
                go_wp2
                go_ret
                rw [HE2.out]
                exact ⟨rfl, HB1.out⟩
            · have b7 : (t.kind == 7) = false := by simp [k7]
              have HKN := Aside0.mk (And.intro k1 (And.intro k2 k7))
              clear k1 k2 k7
              cases la with
              | true =>
                have HE := Aside0.mk (sm_bare HKK.out HKN.out.1 HKN.out.2.1 HKN.out.2.2 HLA.out HLB.out)
                go_wp2_with (first
                  | (refine wpList_load_row rfl 28 _ rfl (w.heap.size) rfl 28 _ (0, 0) _ HX1.out Try.underlying28 rfl (by kernel_rfl) ?_)
                  | (go_at_call 75; go_must (refine (leaf_calls t p w1).mono ?_; rintro e w2 ⟨rfl, hb⟩; rw [HLA.out]; have HB2 := Aside0.mk (below_then HB1.out HB1.out.size hb); clear hb)))
                go_ret
                rw [HE.out]
                exact ⟨rfl, HB2.out⟩
              | false =>
                have HE := Aside0.mk (sm_node HKK.out HLA.out HLB.out)
                go_upto_region 12 with (first
                  | (refine wpList_load_row rfl 28 _ rfl (w.heap.size) rfl 28 _ (0, 0) _ HX1.out Try.underlying28 rfl (by kernel_rfl) ?_)
                  | (go_at_call 75; go_must (refine (leaf_calls t p w1).mono ?_; rintro e w2 ⟨rfl, hb⟩; rw [HLA.out]; have HB2 := Aside0.mk (below_then HB1.out HB1.out.size hb); have HX2 := Aside0.mk ((hb.block _ (blk_lt HX1.out)).trans HX1.out); have HY2 := Aside0.mk ((hb.block _ (blk_lt HY1.out)).trans HY1.out); have c0 := (row8 HX2.out).1; clear hb)))
                obtain ⟨ar, har⟩ : ∃ x, nK t = x := ⟨_, rfl⟩
                have HAR := Aside0.mk har
                have hnk := nK_ar (leaf_nK' HLA.out)
                have HAC := Aside0.mk (show ∀ w, Calls Try.prog 104 #[.int .i64 t.kind] w fun e w' => e = .returned (.int .i64 (ar : Int)) ∧ w' = w from fun w => by rw [← har, hnk]; exact tar_calls _ _)
                have har3 : ar ≤ 3 := by rw [← har]; exact nK_le3 t
                have hart : ar ≤ t.kids.length := by rw [← har]; exact nK_le t
                have haru : ar ≤ u.kids.length := by rw [← har, nK_same HKK.out HLA.out HLB.out]; exact nK_le u
                clear har hnk p0 p1 p2 p3 p4 p5 p6 p7 q0 q1 q2 q3 q4 q5 q6 q7
                go_wp2_with (go_at_call 104; go_must (refine (HAC.out _).mono ?_; rintro e w3 ⟨rfl, h3⟩; have h3 := h3.symm; subst h3))
                clear c0
                go_loopw [53] (fun i wr => ∃ k : Nat, i = .int .i64 k ∧ k ≤ ar ∧ Aside0 (alls t u ((List.finRange (nK t)).drop k) = sameT t u) ∧ Aside0 (Below w2.heap.size w2 wr)) (fun i _ => ar - (intOf i).toNat)
                case atStart => exact ⟨0, rfl, Nat.zero_le _, ⟨by rw [List.drop_zero]; exact HE.out.symm⟩, ⟨Below.refl _ _⟩⟩
                case round =>
                  obtain ⟨k, rfl, hk, HK, HBR⟩ := hrel
                  by_cases hlk : k < ar
                  · have hkn : k < nK t := by rw [HAR.out]; exact hlk
                    have hkm : k < nK u := by rw [← nK_same HKK.out HLA.out HLB.out]; exact hkn
                    have HDF := Aside0.mk (drop_fin hkn)
                    have HBA := Aside0.mk (below_then HB2.out HB2.out.size HBR.out)
                    obtain ⟨qq, hqq⟩ := (TmIn.stay HIN.out HBA.out).kid
                    obtain ⟨qr, hqr⟩ := (TmIn.stay HIN2.out HBA.out).kid
                    obtain ⟨⟨ga, oa, hpK, hga, hca⟩, hxin⟩ := hqq k _ (kidF_get t ⟨k, hkn⟩)
                    obtain ⟨⟨gd, od, hqK, hgd, hcb⟩, hyin⟩ := hqr k _ (kidF_get u ⟨k, hkm⟩)
                    have HGD := Aside0.mk (show u.kids.getD k default = kidF u ⟨k, hkm⟩ by rw [List.getD_eq_getElem?_getD, kidF_get u ⟨k, hkm⟩]; rfl)
                    have HAL := Aside0.mk (alls_cons t u ⟨k, hkn⟩ ((List.finRange (nK t)).drop (k + 1)))
                    have HXL := Aside0.mk (kidF_lt t ⟨k, hkn⟩)
                    obtain ⟨x, hxe⟩ : ∃ x, kidF t ⟨k, hkn⟩ = x := ⟨_, rfl⟩
                    obtain ⟨y, hye⟩ : ∃ y, kidF u ⟨k, hkm⟩ = y := ⟨_, rfl⟩
                    rw [hxe] at hca hxin HAL HXL
                    rw [hye] at hcb hyin HGD
                    rw [HGD.out] at HAL
                    have HXI := Aside0.mk (TmS.all hxin)
                    have HYI := Aside0.mk (TmS.all hyin)
                    have HXR := Aside0.mk ((HBR.out.block _ (blk_lt HX2.out)).trans HX2.out)
                    have HYR := Aside0.mk ((HBR.out.block _ (blk_lt HY2.out)).trans HY2.out)
                    obtain ⟨r, hr⟩ : ∃ r, sameT x y = r := ⟨_, rfl⟩
                    have HR := Aside0.mk hr
                    have hzr := HBA.out.size
                    have ca := fun (j : Nat) (v : Value) (h : (tmC (qq k) x)[j]? = some v) => hca j v h
                    have cb := fun (j : Nat) (v : Value) (h : (tmC (qr k) y)[j]? = some v) => hcb j v h
                    go_upto_region 15 with (fail)
                    refine spk_region wr w.heap.size (w.heap.size + 1) k p q t u ga oa gd od t.kids.length u.kids.length (qq k) (qr k) x y r HXR.out HYR.out hpK hqK rfl rfl (by omega) (by omega) (by omega) (by omega) hlt9 hlu9 (by omega)
                      (ca 0 _ rfl) (ca 1 _ rfl) (ca 2 _ rfl) (ca 3 _ rfl) (ca 4 _ rfl) (ca 5 _ rfl) (ca 6 _ rfl) (ca 7 _ rfl) (cb 0 _ rfl) (cb 1 _ rfl) (cb 2 _ rfl) (cb 3 _ rfl) (cb 4 _ rfl) (cb 5 _ rfl) (cb 6 _ rfl) (cb 7 _ rfl)
                      (fun w9 hb9 => by rw [← hr]; exact IH.out x (by have := HXL.out; have := HNN.out; omega) y (qq k) (qr k) w9 (below_all HXI.out hb9) (below_all HYI.out hb9)) ?_
                    intro w5 hch
                    have HB5 := Aside0.mk (below_then HBR.out HBR.out.size (hch.below (fun _ h => h.elim False.elim False.elim) (Nat.le_refl _)))
                    clear hch hca hcb hxin hyin hpK hqK hga hgd hqq hqr hxe hye ca cb hr
                    cases r with
                    | true =>
                      have HK2 := Aside0.mk (show alls t u ((List.finRange (nK t)).drop (k + 1)) = sameT t u by rw [← HK.out, HDF.out, HAL.out, HR.out, Bool.true_and])
                      go_wp2
                      go_roundw
                      case rel => exact ⟨k + 1, by go_num, by omega, HK2, HB5⟩
                      case measure => (simp [intOf]; try omega)
                    | false =>
                      have HK2 := Aside0.mk (show sameT t u = false by rw [← HK.out, HDF.out, HAL.out, HR.out, Bool.false_and])
                      have HFN := Aside0.mk (below_then HB2.out HB2.out.size HB5.out)
                      go_wp2
                      go_ret
                      rw [HK2.out]
                      exact ⟨rfl, HFN.out⟩
                  · obtain rfl : k = ar := by omega
                    have hlt' : decide ((k : Int) < k) = false := by simp
                    have HZ := Aside0.mk (show sameT t u = true by rw [← HK.out, List.drop_of_length_le (by rw [List.length_finRange, HAR.out]; exact Nat.le_refl _)]; rfl)
                    have HFN := Aside0.mk (below_then HB2.out HB2.out.size HBR.out)
                    go_wp2
                    go_ret
                    rw [HZ.out]
                    exact ⟨rfl, HFN.out⟩
      · refine spy_region W w.heap.size (w.heap.size + 1) p q t u la lb true HX.out HY.out hkk hla hlb (by simp [hll]) ?_
        intro w1 hch
        have hb1 : Below W.heap.size W w1 := hch.below (fun _ h => h.elim False.elim False.elim) (Nat.le_refl _)
        have HB1 := Aside0.mk (below_then HB.out HB.out.size hb1)
        have HX1 := Aside0.mk ((hb1.block _ (blk_lt HX.out)).trans HX.out)
        have HY1 := Aside0.mk ((hb1.block _ (blk_lt HY.out)).trans HY.out)
        have HKK := Aside0.mk hkk
        have HLA := Aside0.mk hla
        have HLB := Aside0.mk hlb
        clear hch hb1 hkk hla hlb HX HY
        have HE := Aside0.mk (sm_leaf HKK.out (by rw [HLA.out, HLB.out]; exact hll))
        clear hll
        go_wp2
        go_ret
        rw [HE.out]
        exact ⟨rfl, HB1.out⟩
    · refine spn_region W w.heap.size (w.heap.size + 1) p q t u HX.out HY.out hkk ?_
      intro w1 hch
      have HB1 := Aside0.mk (below_then HB.out HB.out.size (hch.below (fun _ h => h.elim False.elim False.elim) (Nat.le_refl _)))
      have HE := Aside0.mk (sm_kind hkk)
      clear hch hkk
      go_wp2
      go_ret
      rw [HE.out]
      exact ⟨rfl, HB1.out⟩
set_option maxRecDepth 100000 in
set_option maxHeartbeats 4000000 in
theorem tSame_calls (t u : Tm) (p q : Pl) (w : World) (hin : TmIn w w.heap.size p t) (hin2 : TmIn w w.heap.size q u) :
    Calls Try.prog 48 #[tmV p t, tmV q u] w fun e w' => e = .returned (.bool (SameT t u)) ∧ Below w.heap.size w w' := by
  have HIN := Aside0.mk hin
  have HIN2 := Aside0.mk hin2
  obtain ⟨W, hW⟩ : ∃ W, W = (w.alloc (tmO p t)).alloc (tmO q u) := ⟨_, rfl⟩
  have hb : Below w.heap.size w W := by rw [hW]; exact below_alloc (below_alloc (Below.refl _ _) _) _
  have HX := Aside0.mk (show W.heap[w.heap.size]? = some (tmO p t) by rw [hW]; exact box0 w _ _)
  have HY := Aside0.mk (show W.heap[w.heap.size + 1]? = some (tmO q u) by rw [hW]; exact box1 w _ _)
  have HB := Aside0.mk hb
  clear hin hin2 hb
  unfold tmV
  unfold tmO at hW
  go_enter Try.func48, Try.ntmps48
  go_upto_region 1 with (fail)
  rw [← hW]
  clear hW
  by_cases h1 : okT t
  · have HG1 := Aside0.mk (show greatB t = false by rw [great_eq]; simp [h1])
    by_cases h2 : okT u
    · have HG2 := Aside0.mk (show greatB u = false by rw [great_eq]; simp [h2])
      have HE := Aside0.mk (show SameT t u = sameT t u by unfold SameT; rw [decide_eq_true h1, decide_eq_true h2]; rfl)
      clear h1 h2
      go_wp2_with (first
        | (refine wpList_load_row rfl 28 _ rfl (w.heap.size) rfl 28 _ (0, 0) _ HX.out Try.underlying28 rfl (by kernel_rfl) ?_)
        | (go_at_call 85; go_must (refine (tsame_calls _ t (Nat.lt_succ_self _) u p q w2 (below_all HIN.out HB2.out) (below_all HIN2.out HB2.out)).mono ?_; rintro e w3 ⟨rfl, hb⟩; have HB3 := Aside0.mk (below_then HB2.out HB2.out.size hb); clear hb))
        | (have hgd := HB1; clear hgd; go_at_call 55; go_must (refine (great_calls u q w1 (below_all HIN2.out HB1.out)).mono ?_; rintro e w2 ⟨rfl, hb⟩; rw [HG2.out]; have HB2 := Aside0.mk (below_then HB1.out HB1.out.size hb); have HX2 := Aside0.mk ((hb.block _ (blk_lt HX1.out)).trans HX1.out); have HY2 := Aside0.mk ((hb.block _ (blk_lt HY1.out)).trans HY1.out); obtain ⟨a0, a1, a2, a3, a4, a5, a6, a7⟩ := row8 HX2.out; obtain ⟨z0, z1, z2, z3, z4, z5, z6, z7⟩ := row8 HY2.out; clear hb))
        | (go_at_call 55; go_must (refine (great_calls t p W (below_all HIN.out HB.out)).mono ?_; rintro e w1 ⟨rfl, hb⟩; rw [HG1.out]; have HB1 := Aside0.mk (below_then HB.out HB.out.size hb); have HX1 := Aside0.mk ((hb.block _ (blk_lt HX.out)).trans HX.out); have HY1 := Aside0.mk ((hb.block _ (blk_lt HY.out)).trans HY.out); obtain ⟨y0, y1, y2, y3, y4, y5, y6, y7⟩ := row8 HY1.out; clear hb)))
      go_ret
      rw [HE.out]
      exact ⟨rfl, HB3.out⟩
    · have HG2 := Aside0.mk (show greatB u = true by rw [great_eq]; simp [h2])
      have HE := Aside0.mk (show SameT t u = false by unfold SameT; rw [decide_eq_true h1, decide_eq_false h2]; rfl)
      clear h1 h2
      go_wp2_with (first
        | (refine wpList_load_row rfl 28 _ rfl (w.heap.size) rfl 28 _ (0, 0) _ HX.out Try.underlying28 rfl (by kernel_rfl) ?_)
        | (have hgd := HB1; clear hgd; go_at_call 55; go_must (refine (great_calls u q w1 (below_all HIN2.out HB1.out)).mono ?_; rintro e w2 ⟨rfl, hb⟩; rw [HG2.out]; have HB2 := Aside0.mk (below_then HB1.out HB1.out.size hb); have HX2 := Aside0.mk ((hb.block _ (blk_lt HX1.out)).trans HX1.out); have HY2 := Aside0.mk ((hb.block _ (blk_lt HY1.out)).trans HY1.out); obtain ⟨a0, a1, a2, a3, a4, a5, a6, a7⟩ := row8 HX2.out; obtain ⟨z0, z1, z2, z3, z4, z5, z6, z7⟩ := row8 HY2.out; clear hb))
        | (go_at_call 55; go_must (refine (great_calls t p W (below_all HIN.out HB.out)).mono ?_; rintro e w1 ⟨rfl, hb⟩; rw [HG1.out]; have HB1 := Aside0.mk (below_then HB.out HB.out.size hb); have HX1 := Aside0.mk ((hb.block _ (blk_lt HX.out)).trans HX.out); have HY1 := Aside0.mk ((hb.block _ (blk_lt HY.out)).trans HY.out); obtain ⟨y0, y1, y2, y3, y4, y5, y6, y7⟩ := row8 HY1.out; clear hb)))
      go_ret
      rw [HE.out]
      exact ⟨rfl, HB2.out⟩
  · have HG1 := Aside0.mk (show greatB t = true by rw [great_eq]; simp [h1])
    have HE := Aside0.mk (show SameT t u = false by unfold SameT; rw [decide_eq_false h1]; rfl)
    clear h1
    go_wp2_with (first
      | (refine wpList_load_row rfl 28 _ rfl (w.heap.size) rfl 28 _ (0, 0) _ HX.out Try.underlying28 rfl (by kernel_rfl) ?_)
      | (go_at_call 55; go_must (refine (great_calls t p W (below_all HIN.out HB.out)).mono ?_; rintro e w1 ⟨rfl, hb⟩; rw [HG1.out]; have HB1 := Aside0.mk (below_then HB.out HB.out.size hb); have HX1 := Aside0.mk ((hb.block _ (blk_lt HX.out)).trans HX.out); have HY1 := Aside0.mk ((hb.block _ (blk_lt HY.out)).trans HY.out); obtain ⟨y0, y1, y2, y3, y4, y5, y6, y7⟩ := row8 HY1.out; clear hb)))
    go_ret
    rw [HE.out]
    exact ⟨rfl, HB1.out⟩
end Go.Proofs.Ytdboloabpjmgaaa

/-! LifS -/
namespace Go.Proofs.Ytdboloabpjmgaaa
open Go.RowKit Go.Proofs.YtdboloabpjmgaaaW.PrintWords Go.RegionInvYtdboloabpjmgaaa Go.RegionEYtdboloabpjmgaaa

set_option maxRecDepth 100000 in
set_option maxHeartbeats 1000000 in
theorem lift1S_calls (S : Nat → Prop) (g0 g1 gf gb : Nat) (hS : ∀ k, S k → k < g0) (fr by_ : Int) (t : Tm) (p : Pl) (b : Int) (w : World) (h01 : g0 ≤ g1) (hgf : gf < g1) (hgb : gb < g1) (hg1 : g1 ≤ w.heap.size) (hb0 : 0 ≤ b) (hb1 : b ≤ 1000000) (hf0 : 0 ≤ fr) (hby : -1048576 ≤ by_ ∧ by_ ≤ 1048576) (hin : TmS w S p t) (hR : RepLi gf gb fr by_ w) :
    Calls Try.prog 97 #[tmV p t, .int .i64 b, .pointer (some ⟨gf, 0, none⟩), .pointer (some ⟨gb, 0, none⟩)] w (TmGot w S (liftF fr by_ t b)) := by
  have hg0 : g0 ≤ w.heap.size := Nat.le_trans h01 hg1
  have hnr := hin.fit.1
  obtain ⟨hn0, hn1⟩ := hnr
  obtain ⟨hby0, hby1⟩ := hby
  have HR := Aside0.mk hR
  obtain ⟨W, hW⟩ : ∃ W, W = (w.alloc (tmO p t)).alloc (outK 0 (.slice none 0 0)) := ⟨_, rfl⟩
  have hb : Below w.heap.size w W := by rw [hW]; exact below_alloc (below_alloc (Below.refl _ _) _) _
  have HX := Aside0.mk (show W.heap[w.heap.size]? = some (tmO p t) by rw [hW]; exact box0 w _ _)
  have HX1 := Aside0.mk (show W.heap[w.heap.size + 1]? = some (outK 0 (.slice none 0 0)) by rw [hW]; exact box1 w _ _)
  have HZ := Aside0.mk (show W.heap.size = w.heap.size + 1 + 1 by rw [hW]; simp)
  have HB := Aside0.mk hb
  have HIN := Aside0.mk (TmS.stay hin hS (hb.mono hg0))
  have HSS := Aside0.mk hS
  clear hS
  obtain ⟨y, hy⟩ : ∃ y, y = nodeP t := ⟨_, rfl⟩
  have HY := Aside0.mk hy
  obtain ⟨z, hz⟩ : ∃ z, z = liftF fr by_ t b := ⟨_, rfl⟩
  have HZZ := Aside0.mk hz
  rw [← hz]
  clear hin hb hy hz hR
  unfold tmV
  unfold tmO at hW
  go_enter Try.func97, Try.ntmps97
  go_upto_region 1 with (fail)
  rw [← hW]
  clear hW
  obtain ⟨tk, htk⟩ : ∃ x, t.kind = x := ⟨_, rfl⟩
  obtain ⟨tn, htn⟩ : ∃ x, t.num = x := ⟨_, rfl⟩
  by_cases k1 : t.kind = 1
  · have HYV := Aside0.mk (show y = varT t.num by rw [HY.out]; exact nodeP_var k1)
    have HZV := Aside0.mk (show z = varT (liftN fr by_ t.num b) by rw [HZZ.out]; exact liftF_var k1)
    have e1 : (t.kind != 1) = false := by simp [k1]
    clear htk htn k1
    go_upto_block 0 with (first
      | (refine wpList_load_row rfl 28 _ rfl (w.heap.size) rfl 28 _ (0, 0) _ HX.out Try.underlying28 rfl (by kernel_rfl) ?_)
      | (go_at_call 63; go_must (refine (node_calls S t p W HIN.out).mono ?_; rw [← HY.out]; rintro e w3 ⟨q9, rfl, ht9, hb3⟩; have HT9 := Aside0.mk ht9; have HT9Z := Aside0.mk (TmS.mono (S' := fun k => (S k ∨ W.heap.size ≤ k) ∧ k < w3.heap.size) ht9 fun k h hz => ⟨h, hz⟩); have HX3 := Aside0.mk ((hb3.block _ (blk_lt HX.out)).trans HX.out); have HX13 := Aside0.mk ((hb3.block _ (blk_lt HX1.out)).trans HX1.out); have HB3 := Aside0.mk (below_then HB.out HB.out.size hb3); have HZ3 := Aside0.mk (show w.heap.size + 1 + 1 ≤ w3.heap.size by have := hb3.size; have := HZ.out; omega); clear ht9 hb3; unfold tmV)))
    obtain ⟨W4, hW4⟩ : ∃ W4, W4 = w3.alloc (tmO q9 y) := ⟨_, rfl⟩
    have hb4 : Below w3.heap.size w3 W4 := by rw [hW4]; exact below_alloc (Below.refl _ _) _
    have hO4 : W4.heap[w3.heap.size]? = some (tmO q9 y) := by rw [hW4]; exact blk_new _ _
    have hz3 := HZ3.out
    have hz0 := HB3.out.size
    have HX4 := Aside0.mk ((hb4.block _ (by omega)).trans HX3.out)
    have hX14 := (hb4.block _ (show w.heap.size + 1 < w3.heap.size by omega)).trans HX13.out
    have HX14 := Aside0.mk hX14
    have HT4 := Aside0.mk (HT9.out.later hb4)
    have HO4 := Aside0.mk hO4
    have HB4 := Aside0.mk (below_then HB3.out HB3.out.size hb4)
    have hzo := blk_lt hO4
    have HBW4 := Aside0.mk hb4
    have hgf := (hb4.block gf (by omega)).trans ((HB3.out.block gf (by omega)).trans HR.out.fr)
    have hgb := (hb4.block gb (by omega)).trans ((HB3.out.block gb (by omega)).trans HR.out.by_)
    have k1c : W4.cell? ⟨gf, 0, none⟩ = some (.int .i64 fr) := by rw [cell_of_row _ _ _ _ _ _ hgf]; rfl
    have k2c : W4.cell? ⟨gb, 0, none⟩ = some (.int .i64 by_) := by rw [cell_of_row _ _ _ _ _ _ hgb]; rfl
    obtain ⟨c0, c1, c2, c3, c4, c5, c6, c7⟩ := row8 HX4.out
    obtain ⟨r0, r1, r2, r3, r4, r5, r6, r7, f0, f1, f2, f3, f4, f5, f6, f7⟩ := row8c hX14
    have fo := blk_frozen hO4 1
    obtain ⟨o0, o1, o2, o3, o4, o5, o6, o7⟩ := row8 hO4
    unfold tmO at hW4
    rw [← hW4]
    clear hW4 hb4 hO4 hX14 hgf hgb
    by_cases hlo : t.num < b
    · obtain rfl : y = z := by rw [HYV.out, HZV.out, liftN_lo (.inl hlo)]
      go_wp2_with (refine wpList_load_row rfl 28 _ rfl (w3.heap.size) rfl 28 _ (0, 0) _ HO4.out Try.underlying28 rfl (by kernel_rfl) ?_)
      refine bodyPost_ret (results_c rfl _ _ (w.heap.size + 1) 28 #[.int .i64 y.kind, .int .i64 y.num, .string y.name, .int .i64 y.lv.kind, .int .i64 y.lv.num, .slice q9.A y.lv.kids.length q9.c, .slice q9.B y.ls.length q9.d, .slice q9.K y.kids.length q9.e] (0, 0) _ rfl (set8 HX14.out) Try.underlying28 rfl (by kernel_rfl)) rfl ?_
      exact tm_retS (g := w.heap.size + 1) HT4.out (chg_set8 W4 (w.heap.size + 1) (.int .i64 y.kind) (.int .i64 y.num) (.string y.name) (.int .i64 y.lv.kind) (.int .i64 y.lv.num) (.slice q9.A y.lv.kids.length q9.c) (.slice q9.B y.ls.length q9.d) (.slice q9.K y.kids.length q9.e)) hg0 (by omega) (by have := HZ.out; omega) HB4.out HSS.out
    · by_cases hlo2 : t.num - b < fr
      · obtain rfl : y = z := by rw [HYV.out, HZV.out, liftN_lo (.inr hlo2)]
        go_wp2_with (refine wpList_load_row rfl 28 _ rfl (w3.heap.size) rfl 28 _ (0, 0) _ HO4.out Try.underlying28 rfl (by kernel_rfl) ?_)
        refine bodyPost_ret (results_c rfl _ _ (w.heap.size + 1) 28 #[.int .i64 y.kind, .int .i64 y.num, .string y.name, .int .i64 y.lv.kind, .int .i64 y.lv.num, .slice q9.A y.lv.kids.length q9.c, .slice q9.B y.ls.length q9.d, .slice q9.K y.kids.length q9.e] (0, 0) _ rfl (set8 HX14.out) Try.underlying28 rfl (by kernel_rfl)) rfl ?_
        exact tm_retS (g := w.heap.size + 1) HT4.out (chg_set8 W4 (w.heap.size + 1) (.int .i64 y.kind) (.int .i64 y.num) (.string y.name) (.int .i64 y.lv.kind) (.int .i64 y.lv.num) (.slice q9.A y.lv.kids.length q9.c) (.slice q9.B y.ls.length q9.d) (.slice q9.K y.kids.length q9.e)) hg0 (by omega) (by have := HZ.out; omega) HB4.out HSS.out
      · have hno : ¬ (t.num < b ∨ t.num - b < fr) := fun h => h.elim hlo hlo2
        by_cases hpos : 0 < by_
        · by_cases hm : t.num ≤ 9223372036854775807 - by_
          · go_upto_region 6 with (fail)
            obtain ⟨W5, hW5⟩ : ∃ W5, W5 = W4.setCell ⟨w3.heap.size, 1, none⟩ (.int .i64 (t.num + by_)) := ⟨_, rfl⟩
            have hc5 := chg_set W4 w3.heap.size 1 (.int .i64 (t.num + by_))
            have hO5 := blk_put HO4.out 1 (.int .i64 (t.num + by_)) rfl
            rw [← hW5] at hc5 hO5 ⊢
            clear hW5
            have HZE := Aside0.mk (show z = varT (t.num + by_) by rw [HZV.out]; congr 1; rw [liftN_up hno hpos]; omega)
            have HO5 := Aside0.mk (show W5.heap[w3.heap.size]? = some (tmO q9 z) by rw [hO5, HZE.out, HYV.out]; rfl)
            have hX15 := (hc5.block (w.heap.size + 1) (by omega) (by omega)).trans HX14.out
            have HX15 := Aside0.mk hX15
            have HT5 := Aside0.mk (show TmS W5 (fun k => S k ∨ W.heap.size ≤ k) q9 z by
              have h := HT9Z.out
              rw [HYV.out] at h
              rw [HZE.out]
              exact ((TmS.renum (m := t.num + by_) h (by omega)).same fun k hk hz => (hc5.block k (by omega) (by omega)).trans (HBW4.out.block k hk.2)).mono fun k hk _ => hk.1)
            have HB5 := Aside0.mk (Chg.trans_below HB4.out hc5 (fun k h => by omega) HB4.out.size)
            obtain ⟨s0, s1, s2, s3, s4, s5, s6, s7, h0, h1, h2, h3, h4, h5, h6, h7⟩ := row8c hX15
            clear hc5 hO5 hX15 r0 r1 r2 r3 r4 r5 r6 r7 f0 f1 f2 f3 f4 f5 f6 f7 o0 o1 o2 o3 o4 o5 o6 o7 c0 c1 c2 c3 c4 c5 c6 c7 k1c k2c
            go_wp2_with (refine wpList_load_row rfl 28 _ rfl (w3.heap.size) rfl 28 _ (0, 0) _ HO5.out Try.underlying28 rfl (by kernel_rfl) ?_)
            refine bodyPost_ret (results_c rfl _ _ (w.heap.size + 1) 28 #[.int .i64 z.kind, .int .i64 z.num, .string z.name, .int .i64 z.lv.kind, .int .i64 z.lv.num, .slice q9.A z.lv.kids.length q9.c, .slice q9.B z.ls.length q9.d, .slice q9.K z.kids.length q9.e] (0, 0) _ rfl (set8 HX15.out) Try.underlying28 rfl (by kernel_rfl)) rfl ?_
            exact tm_retS (g := w.heap.size + 1) HT5.out (chg_set8 W5 (w.heap.size + 1) (.int .i64 z.kind) (.int .i64 z.num) (.string z.name) (.int .i64 z.lv.kind) (.int .i64 z.lv.num) (.slice q9.A z.lv.kids.length q9.c) (.slice q9.B z.ls.length q9.d) (.slice q9.K z.kids.length q9.e)) hg0 (by omega) (by have := HZ.out; omega) HB5.out HSS.out
          · have hm2 : ¬ t.num ≤ 9223372036854775807 - by_ := hm
            go_upto_region 6 with (fail)
            obtain ⟨W5, hW5⟩ : ∃ W5, W5 = W4.setCell ⟨w3.heap.size, 1, none⟩ (.int .i64 (9223372036854775807)) := ⟨_, rfl⟩
            have hc5 := chg_set W4 w3.heap.size 1 (.int .i64 (9223372036854775807))
            have hO5 := blk_put HO4.out 1 (.int .i64 (9223372036854775807)) rfl
            rw [← hW5] at hc5 hO5 ⊢
            clear hW5
            have HZE := Aside0.mk (show z = varT (9223372036854775807) by rw [HZV.out]; congr 1; rw [liftN_up hno hpos]; omega)
            have HO5 := Aside0.mk (show W5.heap[w3.heap.size]? = some (tmO q9 z) by rw [hO5, HZE.out, HYV.out]; rfl)
            have hX15 := (hc5.block (w.heap.size + 1) (by omega) (by omega)).trans HX14.out
            have HX15 := Aside0.mk hX15
            have HT5 := Aside0.mk (show TmS W5 (fun k => S k ∨ W.heap.size ≤ k) q9 z by
              have h := HT9Z.out
              rw [HYV.out] at h
              rw [HZE.out]
              exact ((TmS.renum (m := 9223372036854775807) h (by omega)).same fun k hk hz => (hc5.block k (by omega) (by omega)).trans (HBW4.out.block k hk.2)).mono fun k hk _ => hk.1)
            have HB5 := Aside0.mk (Chg.trans_below HB4.out hc5 (fun k h => by omega) HB4.out.size)
            obtain ⟨s0, s1, s2, s3, s4, s5, s6, s7, h0, h1, h2, h3, h4, h5, h6, h7⟩ := row8c hX15
            clear hc5 hO5 hX15 r0 r1 r2 r3 r4 r5 r6 r7 f0 f1 f2 f3 f4 f5 f6 f7 o0 o1 o2 o3 o4 o5 o6 o7 c0 c1 c2 c3 c4 c5 c6 c7 k1c k2c
            go_wp2_with (refine wpList_load_row rfl 28 _ rfl (w3.heap.size) rfl 28 _ (0, 0) _ HO5.out Try.underlying28 rfl (by kernel_rfl) ?_)
            refine bodyPost_ret (results_c rfl _ _ (w.heap.size + 1) 28 #[.int .i64 z.kind, .int .i64 z.num, .string z.name, .int .i64 z.lv.kind, .int .i64 z.lv.num, .slice q9.A z.lv.kids.length q9.c, .slice q9.B z.ls.length q9.d, .slice q9.K z.kids.length q9.e] (0, 0) _ rfl (set8 HX15.out) Try.underlying28 rfl (by kernel_rfl)) rfl ?_
            exact tm_retS (g := w.heap.size + 1) HT5.out (chg_set8 W5 (w.heap.size + 1) (.int .i64 z.kind) (.int .i64 z.num) (.string z.name) (.int .i64 z.lv.kind) (.int .i64 z.lv.num) (.slice q9.A z.lv.kids.length q9.c) (.slice q9.B z.ls.length q9.d) (.slice q9.K z.kids.length q9.e)) hg0 (by omega) (by have := HZ.out; omega) HB5.out HSS.out
        · by_cases hm : b < t.num + by_
          · go_upto_region 6 with (fail)
            obtain ⟨W5, hW5⟩ : ∃ W5, W5 = W4.setCell ⟨w3.heap.size, 1, none⟩ (.int .i64 (t.num + by_)) := ⟨_, rfl⟩
            have hc5 := chg_set W4 w3.heap.size 1 (.int .i64 (t.num + by_))
            have hO5 := blk_put HO4.out 1 (.int .i64 (t.num + by_)) rfl
            rw [← hW5] at hc5 hO5 ⊢
            clear hW5
            have HZE := Aside0.mk (show z = varT (t.num + by_) by rw [HZV.out]; congr 1; rw [liftN_dn hno hpos]; omega)
            have HO5 := Aside0.mk (show W5.heap[w3.heap.size]? = some (tmO q9 z) by rw [hO5, HZE.out, HYV.out]; rfl)
            have hX15 := (hc5.block (w.heap.size + 1) (by omega) (by omega)).trans HX14.out
            have HX15 := Aside0.mk hX15
            have HT5 := Aside0.mk (show TmS W5 (fun k => S k ∨ W.heap.size ≤ k) q9 z by
              have h := HT9Z.out
              rw [HYV.out] at h
              rw [HZE.out]
              exact ((TmS.renum (m := t.num + by_) h (by omega)).same fun k hk hz => (hc5.block k (by omega) (by omega)).trans (HBW4.out.block k hk.2)).mono fun k hk _ => hk.1)
            have HB5 := Aside0.mk (Chg.trans_below HB4.out hc5 (fun k h => by omega) HB4.out.size)
            obtain ⟨s0, s1, s2, s3, s4, s5, s6, s7, h0, h1, h2, h3, h4, h5, h6, h7⟩ := row8c hX15
            clear hc5 hO5 hX15 r0 r1 r2 r3 r4 r5 r6 r7 f0 f1 f2 f3 f4 f5 f6 f7 o0 o1 o2 o3 o4 o5 o6 o7 c0 c1 c2 c3 c4 c5 c6 c7 k1c k2c
            go_wp2_with (refine wpList_load_row rfl 28 _ rfl (w3.heap.size) rfl 28 _ (0, 0) _ HO5.out Try.underlying28 rfl (by kernel_rfl) ?_)
            refine bodyPost_ret (results_c rfl _ _ (w.heap.size + 1) 28 #[.int .i64 z.kind, .int .i64 z.num, .string z.name, .int .i64 z.lv.kind, .int .i64 z.lv.num, .slice q9.A z.lv.kids.length q9.c, .slice q9.B z.ls.length q9.d, .slice q9.K z.kids.length q9.e] (0, 0) _ rfl (set8 HX15.out) Try.underlying28 rfl (by kernel_rfl)) rfl ?_
            exact tm_retS (g := w.heap.size + 1) HT5.out (chg_set8 W5 (w.heap.size + 1) (.int .i64 z.kind) (.int .i64 z.num) (.string z.name) (.int .i64 z.lv.kind) (.int .i64 z.lv.num) (.slice q9.A z.lv.kids.length q9.c) (.slice q9.B z.ls.length q9.d) (.slice q9.K z.kids.length q9.e)) hg0 (by omega) (by have := HZ.out; omega) HB5.out HSS.out
          · have hm2 : ¬ b < t.num + by_ := hm
            go_upto_region 6 with (fail)
            obtain ⟨W5, hW5⟩ : ∃ W5, W5 = W4.setCell ⟨w3.heap.size, 1, none⟩ (.int .i64 (b)) := ⟨_, rfl⟩
            have hc5 := chg_set W4 w3.heap.size 1 (.int .i64 (b))
            have hO5 := blk_put HO4.out 1 (.int .i64 (b)) rfl
            rw [← hW5] at hc5 hO5 ⊢
            clear hW5
            have HZE := Aside0.mk (show z = varT (b) by rw [HZV.out]; congr 1; rw [liftN_dn hno hpos]; omega)
            have HO5 := Aside0.mk (show W5.heap[w3.heap.size]? = some (tmO q9 z) by rw [hO5, HZE.out, HYV.out]; rfl)
            have hX15 := (hc5.block (w.heap.size + 1) (by omega) (by omega)).trans HX14.out
            have HX15 := Aside0.mk hX15
            have HT5 := Aside0.mk (show TmS W5 (fun k => S k ∨ W.heap.size ≤ k) q9 z by
              have h := HT9Z.out
              rw [HYV.out] at h
              rw [HZE.out]
              exact ((TmS.renum (m := b) h (by omega)).same fun k hk hz => (hc5.block k (by omega) (by omega)).trans (HBW4.out.block k hk.2)).mono fun k hk _ => hk.1)
            have HB5 := Aside0.mk (Chg.trans_below HB4.out hc5 (fun k h => by omega) HB4.out.size)
            obtain ⟨s0, s1, s2, s3, s4, s5, s6, s7, h0, h1, h2, h3, h4, h5, h6, h7⟩ := row8c hX15
            clear hc5 hO5 hX15 r0 r1 r2 r3 r4 r5 r6 r7 f0 f1 f2 f3 f4 f5 f6 f7 o0 o1 o2 o3 o4 o5 o6 o7 c0 c1 c2 c3 c4 c5 c6 c7 k1c k2c
            go_wp2_with (refine wpList_load_row rfl 28 _ rfl (w3.heap.size) rfl 28 _ (0, 0) _ HO5.out Try.underlying28 rfl (by kernel_rfl) ?_)
            refine bodyPost_ret (results_c rfl _ _ (w.heap.size + 1) 28 #[.int .i64 z.kind, .int .i64 z.num, .string z.name, .int .i64 z.lv.kind, .int .i64 z.lv.num, .slice q9.A z.lv.kids.length q9.c, .slice q9.B z.ls.length q9.d, .slice q9.K z.kids.length q9.e] (0, 0) _ rfl (set8 HX15.out) Try.underlying28 rfl (by kernel_rfl)) rfl ?_
            exact tm_retS (g := w.heap.size + 1) HT5.out (chg_set8 W5 (w.heap.size + 1) (.int .i64 z.kind) (.int .i64 z.num) (.string z.name) (.int .i64 z.lv.kind) (.int .i64 z.lv.num) (.slice q9.A z.lv.kids.length q9.c) (.slice q9.B z.ls.length q9.d) (.slice q9.K z.kids.length q9.e)) hg0 (by omega) (by have := HZ.out; omega) HB5.out HSS.out
  · have HZV := Aside0.mk (show z = y by rw [HZZ.out, HY.out]; exact liftF_no k1)
    have e1 : (t.kind != 1) = true := by simp [k1]
    clear htk htn k1
    go_upto_block 0 with (first
      | (refine wpList_load_row rfl 28 _ rfl (w.heap.size) rfl 28 _ (0, 0) _ HX.out Try.underlying28 rfl (by kernel_rfl) ?_)
      | (go_at_call 63; go_must (refine (node_calls S t p W HIN.out).mono ?_; rw [← HY.out]; rintro e w3 ⟨q9, rfl, ht9, hb3⟩; have HT9 := Aside0.mk ht9; have HT9Z := Aside0.mk (TmS.mono (S' := fun k => (S k ∨ W.heap.size ≤ k) ∧ k < w3.heap.size) ht9 fun k h hz => ⟨h, hz⟩); have HX3 := Aside0.mk ((hb3.block _ (blk_lt HX.out)).trans HX.out); have HX13 := Aside0.mk ((hb3.block _ (blk_lt HX1.out)).trans HX1.out); have HB3 := Aside0.mk (below_then HB.out HB.out.size hb3); have HZ3 := Aside0.mk (show w.heap.size + 1 + 1 ≤ w3.heap.size by have := hb3.size; have := HZ.out; omega); clear ht9 hb3; unfold tmV)))
    obtain ⟨W4, hW4⟩ : ∃ W4, W4 = w3.alloc (tmO q9 y) := ⟨_, rfl⟩
    have hb4 : Below w3.heap.size w3 W4 := by rw [hW4]; exact below_alloc (Below.refl _ _) _
    have hO4 : W4.heap[w3.heap.size]? = some (tmO q9 y) := by rw [hW4]; exact blk_new _ _
    have hz3 := HZ3.out
    have hz0 := HB3.out.size
    have HX4 := Aside0.mk ((hb4.block _ (by omega)).trans HX3.out)
    have hX14 := (hb4.block _ (show w.heap.size + 1 < w3.heap.size by omega)).trans HX13.out
    have HX14 := Aside0.mk hX14
    have HT4 := Aside0.mk (HT9.out.later hb4)
    have HO4 := Aside0.mk hO4
    have HB4 := Aside0.mk (below_then HB3.out HB3.out.size hb4)
    have hzo := blk_lt hO4
    have HBW4 := Aside0.mk hb4
    have hgf := (hb4.block gf (by omega)).trans ((HB3.out.block gf (by omega)).trans HR.out.fr)
    have hgb := (hb4.block gb (by omega)).trans ((HB3.out.block gb (by omega)).trans HR.out.by_)
    have k1c : W4.cell? ⟨gf, 0, none⟩ = some (.int .i64 fr) := by rw [cell_of_row _ _ _ _ _ _ hgf]; rfl
    have k2c : W4.cell? ⟨gb, 0, none⟩ = some (.int .i64 by_) := by rw [cell_of_row _ _ _ _ _ _ hgb]; rfl
    obtain ⟨c0, c1, c2, c3, c4, c5, c6, c7⟩ := row8 HX4.out
    obtain ⟨r0, r1, r2, r3, r4, r5, r6, r7, f0, f1, f2, f3, f4, f5, f6, f7⟩ := row8c hX14
    have fo := blk_frozen hO4 1
    obtain ⟨o0, o1, o2, o3, o4, o5, o6, o7⟩ := row8 hO4
    unfold tmO at hW4
    rw [← hW4]
    clear hW4 hb4 hO4 hX14 hgf hgb
    obtain rfl : y = z := HZV.out.symm
    go_wp2_with (refine wpList_load_row rfl 28 _ rfl (w3.heap.size) rfl 28 _ (0, 0) _ HO4.out Try.underlying28 rfl (by kernel_rfl) ?_)
    refine bodyPost_ret (results_c rfl _ _ (w.heap.size + 1) 28 #[.int .i64 y.kind, .int .i64 y.num, .string y.name, .int .i64 y.lv.kind, .int .i64 y.lv.num, .slice q9.A y.lv.kids.length q9.c, .slice q9.B y.ls.length q9.d, .slice q9.K y.kids.length q9.e] (0, 0) _ rfl (set8 HX14.out) Try.underlying28 rfl (by kernel_rfl)) rfl ?_
    exact tm_retS (g := w.heap.size + 1) HT4.out (chg_set8 W4 (w.heap.size + 1) (.int .i64 y.kind) (.int .i64 y.num) (.string y.name) (.int .i64 y.lv.kind) (.int .i64 y.lv.num) (.slice q9.A y.lv.kids.length q9.c) (.slice q9.B y.ls.length q9.d) (.slice q9.K y.kids.length q9.e)) hg0 (by omega) (by have := HZ.out; omega) HB4.out HSS.out

theorem rebS_lift (S : Nat → Prop) (g0 g1 gf gb : Nat) (hS : ∀ k, S k → k < g0) (fr by_ : Int) (t : Tm) (p : Pl) (w : World) (hok : okT t) (h01 : g0 ≤ g1) (hgf : gf < g1) (hgb : gb < g1) (hg1 : g1 ≤ w.heap.size) (hf0 : 0 ≤ fr) (hby : -1048576 ≤ by_ ∧ by_ ≤ 1048576) (hin : TmS w S p t) (hR : RepLi gf gb fr by_ w) :
    Calls Try.prog 60 #[tmV p t, .int .i64 0, .func (.func 97) #[] #[.pointer (some ⟨gf, 0, none⟩), .pointer (some ⟨gb, 0, none⟩)]] w (TmGot w S (liftT fr by_ t)) :=
  reb_Li (liftF fr by_) (RepLi gf gb fr by_) S g0 g1 h01 hS gf gb (fun W W' h hs => ⟨(hs gf hgf).trans h.fr, (hs gb hgb).trans h.by_⟩)
    (fun t p b w _ hb0 hb1 hg hin hR => lift1S_calls S g0 g1 gf gb hS fr by_ t p b w h01 hgf hgb hg hb0 hb1 hf0 hby hin hR) _ t (Nat.lt_succ_self _) p 0 w (by omega) (by have := hok.2; omega) hg1 hin hR
set_option maxRecDepth 100000 in
set_option maxHeartbeats 2000000 in
theorem tliftS_calls (S : Nat → Prop) (g0 : Nat) (hS : ∀ k, S k → k < g0) (fr by_ : Int) (t : Tm) (p : Pl) (w : World) (hok : okT t) (hg0 : g0 ≤ w.heap.size) (hf0 : 0 ≤ fr) (hby : -1048576 ≤ by_ ∧ by_ ≤ 1048576) (hin : TmS w S p t) :
    Calls Try.prog 62 #[tmV p t, .int .i64 fr, .int .i64 by_] w (TmGot w S (liftT fr by_ t)) := by
  obtain ⟨W, hW⟩ : ∃ W, W = (((w.alloc (tmO p t)).alloc (.cells #[.int .i64 fr] 3 (0, 0))).alloc (.cells #[.int .i64 by_] 3 (0, 0))).alloc (outK 0 (.slice none 0 0)) := ⟨_, rfl⟩
  have hb : Below w.heap.size w W := by rw [hW]; exact below_alloc (below_alloc (below_alloc (below_alloc (Below.refl _ _) _) _) _) _
  have HX := Aside0.mk (show W.heap[w.heap.size]? = some (tmO p t) by rw [hW]; exact blk_alloc (blk_alloc (box0 w _ _) _) _)
  have HR := Aside0.mk (show RepLi (w.heap.size + 1) (w.heap.size + 1 + 1) fr by_ W by
    rw [hW]
    refine ⟨blk_alloc (blk_alloc (box1 w _ _) _) _, blk_alloc ?_ _⟩
    have := blk_new ((w.alloc (tmO p t)).alloc (.cells #[.int .i64 fr] 3 (0, 0))) (.cells #[.int .i64 by_] 3 (0, 0))
    simpa using this)
  have hXR : W.heap[w.heap.size + 1 + 1 + 1]? = some (outK 0 (.slice none 0 0)) := by
    rw [hW]
    have := blk_new (((w.alloc (tmO p t)).alloc (.cells #[.int .i64 fr] 3 (0, 0))).alloc (.cells #[.int .i64 by_] 3 (0, 0))) (outK 0 (.slice none 0 0))
    simpa using this
  have HXR := Aside0.mk hXR
  have HZ := Aside0.mk (blk_lt hXR)
  have HB := Aside0.mk hb
  have HIN := Aside0.mk (TmS.stay hin hS (hb.mono hg0))
  have HSS := Aside0.mk hS
  clear hS
  have HOK := Aside0.mk hok
  obtain ⟨y, hy⟩ : ∃ y, y = liftT fr by_ t := ⟨_, rfl⟩
  have HY := Aside0.mk hy
  rw [← hy]
  obtain ⟨hby0, hby1⟩ := hby
  clear hin hb hy hok hXR
  unfold tmV
  unfold tmO at hW
  go_enter Try.func62, Try.ntmps62
  go_upto_region 1 with (fail)
  rw [← hW]
  clear hW
  go_wp2_with (first
    | (refine wpList_load_row rfl 28 _ rfl (w.heap.size) rfl 28 _ (0, 0) _ HX.out Try.underlying28 rfl (by kernel_rfl) ?_)
    | (go_at_call 60; go_must (refine (rebS_lift S g0 (w.heap.size + 1 + 1 + 1) (w.heap.size + 1) (w.heap.size + 1 + 1) HSS.out fr by_ t p W HOK.out (by omega) (by omega) (by omega) (by have := HZ.out; omega) hf0 ⟨hby0, hby1⟩ HIN.out HR.out).mono ?_; rw [← HY.out]; rintro e w3 ⟨q9, rfl, ht9, hb3⟩; have HT9 := Aside0.mk ht9; have hX13 := (hb3.block _ (blk_lt HXR.out)).trans HXR.out; have HX13 := Aside0.mk hX13; have HB3 := Aside0.mk (below_then HB.out HB.out.size hb3); obtain ⟨r0, r1, r2, r3, r4, r5, r6, r7, f0, f1, f2, f3, f4, f5, f6, f7⟩ := row8c hX13; clear ht9 hb3 hX13; unfold tmV)))
  refine bodyPost_ret (results_c rfl _ _ (w.heap.size + 1 + 1 + 1) 28 #[.int .i64 y.kind, .int .i64 y.num, .string y.name, .int .i64 y.lv.kind, .int .i64 y.lv.num, .slice q9.A y.lv.kids.length q9.c, .slice q9.B y.ls.length q9.d, .slice q9.K y.kids.length q9.e] (0, 0) _ rfl (set8 HX13.out) Try.underlying28 rfl (by kernel_rfl)) rfl ?_
  exact tm_retS (g := w.heap.size + 1 + 1 + 1) HT9.out (chg_set8 w3 (w.heap.size + 1 + 1 + 1) (.int .i64 y.kind) (.int .i64 y.num) (.string y.name) (.int .i64 y.lv.kind) (.int .i64 y.lv.num) (.slice q9.A y.lv.kids.length q9.c) (.slice q9.B y.ls.length q9.d) (.slice q9.K y.kids.length q9.e)) hg0 (by omega) HZ.out HB3.out HSS.out
set_option maxRecDepth 100000 in
set_option maxHeartbeats 4000000 in
theorem LiftS_calls (S : Nat → Prop) (g0 : Nat) (hS : ∀ k, S k → k < g0) (fr by_ : Int) (t : Tm) (p : Pl) (w : World) (hg0 : g0 ≤ w.heap.size) (hin : TmS w S p t) :
    Calls Try.prog 23 #[tmV p t, .int .i64 fr, .int .i64 by_] w (TmGot w S (LiftT t fr by_)) := by
  obtain ⟨W, hW⟩ : ∃ W, W = (w.alloc (tmO p t)).alloc (outK 0 (.slice none 0 0)) := ⟨_, rfl⟩
  have hb : Below w.heap.size w W := by rw [hW]; exact below_alloc (below_alloc (Below.refl _ _) _) _
  have HX := Aside0.mk (show W.heap[w.heap.size]? = some (tmO p t) by rw [hW]; exact box0 w _ _)
  have HX1 := Aside0.mk (show W.heap[w.heap.size + 1]? = some (outK 0 (.slice none 0 0)) by rw [hW]; exact box1 w _ _)
  have HZ := Aside0.mk (show W.heap.size = w.heap.size + 1 + 1 by rw [hW]; simp)
  have HB := Aside0.mk hb
  have HIN := Aside0.mk (TmS.stay hin hS (hb.mono hg0))
  have HSS := Aside0.mk hS
  clear hS
  have HGE := Aside0.mk (great_eq t)
  obtain ⟨y, hy⟩ : ∃ y, y = LiftT t fr by_ := ⟨_, rfl⟩
  have HY := Aside0.mk hy
  rw [← hy]
  clear hin hb hy
  unfold tmV
  unfold tmO at hW
  go_enter Try.func23, Try.ntmps23
  go_upto_region 1 with (fail)
  rw [← hW]
  clear hW
  by_cases hk : okT t
  · have HK := Aside0.mk hk
    have HG := Aside0.mk (show greatB t = false by rw [HGE.out]; simp [hk])
    have HYO := Aside0.mk (HY.out.trans (LiftT_ok hk))
    clear hk
    go_upto_region 3 with (first
      | (refine wpList_load_row rfl 28 _ rfl (w.heap.size) rfl 28 _ (0, 0) _ HX.out Try.underlying28 rfl (by kernel_rfl) ?_)
      | (go_at_call 55; go_must (refine (great_calls t p W (TmS.mono HIN.out fun k h _ => Nat.lt_of_lt_of_le (HSS.out k h) (Nat.le_trans hg0 HB.out.size))).mono ?_; rintro e w1 ⟨rfl, hb⟩; rw [HG.out]; have HX01 := Aside0.mk ((hb.block _ (blk_lt HX.out)).trans HX.out); have HX11 := Aside0.mk ((hb.block _ (blk_lt HX1.out)).trans HX1.out); have HB1 := Aside0.mk (below_then HB.out HB.out.size hb); have HZ1 := Aside0.mk (show w.heap.size + 1 + 1 ≤ w1.heap.size by have := hb.size; have := HZ.out; omega); have HIN1 := Aside0.mk (TmS.stay HIN.out HSS.out (hb.mono (Nat.le_trans hg0 HB.out.size))); clear hb)))
    clear HX HX1 HB HIN
    by_cases hf : 0 < fr
    · skip
      by_cases hb1 : ¬ 1048576 < by_
      · by_cases hb2 : -1048576 < by_
        · have HF := Aside0.mk (show y = liftT (fr) (by_) t by rw [HYO.out]; congr 1 <;> omega)
          go_wp2_with (first
            | (refine wpList_load_row rfl 28 _ rfl (w.heap.size) rfl 28 _ (0, 0) _ HX01.out Try.underlying28 rfl (by kernel_rfl) ?_)
            | (go_at_call 62; go_must (refine (tliftS_calls S g0 HSS.out (fr) (by_) t p w1 HK.out (Nat.le_trans hg0 HB1.out.size) (by omega) (by omega) HIN1.out).mono ?_; rw [← HF.out]; rintro e w3 ⟨q9, rfl, ht9, hb3⟩; have HT9 := Aside0.mk ht9; have hX13 := (hb3.block _ (blk_lt HX11.out)).trans HX11.out; have HX13 := Aside0.mk hX13; have HB3 := Aside0.mk (below_then HB1.out HB1.out.size hb3); obtain ⟨r0, r1, r2, r3, r4, r5, r6, r7, f0, f1, f2, f3, f4, f5, f6, f7⟩ := row8c hX13; clear ht9 hb3 hX13; unfold tmV)))
          refine bodyPost_ret (results_c rfl _ _ (w.heap.size + 1) 28 #[.int .i64 y.kind, .int .i64 y.num, .string y.name, .int .i64 y.lv.kind, .int .i64 y.lv.num, .slice q9.A y.lv.kids.length q9.c, .slice q9.B y.ls.length q9.d, .slice q9.K y.kids.length q9.e] (0, 0) _ rfl (set8 HX13.out) Try.underlying28 rfl (by kernel_rfl)) rfl ?_
          exact tm_retS (g := w.heap.size + 1) HT9.out (chg_set8 w3 (w.heap.size + 1) (.int .i64 y.kind) (.int .i64 y.num) (.string y.name) (.int .i64 y.lv.kind) (.int .i64 y.lv.num) (.slice q9.A y.lv.kids.length q9.c) (.slice q9.B y.ls.length q9.d) (.slice q9.K y.kids.length q9.e)) hg0 (by omega) HZ1.out HB3.out HSS.out
        · have HF := Aside0.mk (show y = liftT (fr) (-1048576) t by rw [HYO.out]; congr 1 <;> omega)
          go_wp2_with (first
            | (refine wpList_load_row rfl 28 _ rfl (w.heap.size) rfl 28 _ (0, 0) _ HX01.out Try.underlying28 rfl (by kernel_rfl) ?_)
            | (go_at_call 62; go_must (refine (tliftS_calls S g0 HSS.out (fr) (-1048576) t p w1 HK.out (Nat.le_trans hg0 HB1.out.size) (by omega) (by omega) HIN1.out).mono ?_; rw [← HF.out]; rintro e w3 ⟨q9, rfl, ht9, hb3⟩; have HT9 := Aside0.mk ht9; have hX13 := (hb3.block _ (blk_lt HX11.out)).trans HX11.out; have HX13 := Aside0.mk hX13; have HB3 := Aside0.mk (below_then HB1.out HB1.out.size hb3); obtain ⟨r0, r1, r2, r3, r4, r5, r6, r7, f0, f1, f2, f3, f4, f5, f6, f7⟩ := row8c hX13; clear ht9 hb3 hX13; unfold tmV)))
          refine bodyPost_ret (results_c rfl _ _ (w.heap.size + 1) 28 #[.int .i64 y.kind, .int .i64 y.num, .string y.name, .int .i64 y.lv.kind, .int .i64 y.lv.num, .slice q9.A y.lv.kids.length q9.c, .slice q9.B y.ls.length q9.d, .slice q9.K y.kids.length q9.e] (0, 0) _ rfl (set8 HX13.out) Try.underlying28 rfl (by kernel_rfl)) rfl ?_
          exact tm_retS (g := w.heap.size + 1) HT9.out (chg_set8 w3 (w.heap.size + 1) (.int .i64 y.kind) (.int .i64 y.num) (.string y.name) (.int .i64 y.lv.kind) (.int .i64 y.lv.num) (.slice q9.A y.lv.kids.length q9.c) (.slice q9.B y.ls.length q9.d) (.slice q9.K y.kids.length q9.e)) hg0 (by omega) HZ1.out HB3.out HSS.out
      · have hb1' : 1048576 < by_ := by omega
        have HF := Aside0.mk (show y = liftT (fr) (1048576) t by rw [HYO.out]; congr 1 <;> omega)
        go_wp2_with (first
          | (refine wpList_load_row rfl 28 _ rfl (w.heap.size) rfl 28 _ (0, 0) _ HX01.out Try.underlying28 rfl (by kernel_rfl) ?_)
          | (go_at_call 62; go_must (refine (tliftS_calls S g0 HSS.out (fr) (1048576) t p w1 HK.out (Nat.le_trans hg0 HB1.out.size) (by omega) (by omega) HIN1.out).mono ?_; rw [← HF.out]; rintro e w3 ⟨q9, rfl, ht9, hb3⟩; have HT9 := Aside0.mk ht9; have hX13 := (hb3.block _ (blk_lt HX11.out)).trans HX11.out; have HX13 := Aside0.mk hX13; have HB3 := Aside0.mk (below_then HB1.out HB1.out.size hb3); obtain ⟨r0, r1, r2, r3, r4, r5, r6, r7, f0, f1, f2, f3, f4, f5, f6, f7⟩ := row8c hX13; clear ht9 hb3 hX13; unfold tmV)))
        refine bodyPost_ret (results_c rfl _ _ (w.heap.size + 1) 28 #[.int .i64 y.kind, .int .i64 y.num, .string y.name, .int .i64 y.lv.kind, .int .i64 y.lv.num, .slice q9.A y.lv.kids.length q9.c, .slice q9.B y.ls.length q9.d, .slice q9.K y.kids.length q9.e] (0, 0) _ rfl (set8 HX13.out) Try.underlying28 rfl (by kernel_rfl)) rfl ?_
        exact tm_retS (g := w.heap.size + 1) HT9.out (chg_set8 w3 (w.heap.size + 1) (.int .i64 y.kind) (.int .i64 y.num) (.string y.name) (.int .i64 y.lv.kind) (.int .i64 y.lv.num) (.slice q9.A y.lv.kids.length q9.c) (.slice q9.B y.ls.length q9.d) (.slice q9.K y.kids.length q9.e)) hg0 (by omega) HZ1.out HB3.out HSS.out
    · skip
      by_cases hb1 : ¬ 1048576 < by_
      · by_cases hb2 : -1048576 < by_
        · have HF := Aside0.mk (show y = liftT (0) (by_) t by rw [HYO.out]; congr 1 <;> omega)
          go_wp2_with (first
            | (refine wpList_load_row rfl 28 _ rfl (w.heap.size) rfl 28 _ (0, 0) _ HX01.out Try.underlying28 rfl (by kernel_rfl) ?_)
            | (go_at_call 62; go_must (refine (tliftS_calls S g0 HSS.out (0) (by_) t p w1 HK.out (Nat.le_trans hg0 HB1.out.size) (by omega) (by omega) HIN1.out).mono ?_; rw [← HF.out]; rintro e w3 ⟨q9, rfl, ht9, hb3⟩; have HT9 := Aside0.mk ht9; have hX13 := (hb3.block _ (blk_lt HX11.out)).trans HX11.out; have HX13 := Aside0.mk hX13; have HB3 := Aside0.mk (below_then HB1.out HB1.out.size hb3); obtain ⟨r0, r1, r2, r3, r4, r5, r6, r7, f0, f1, f2, f3, f4, f5, f6, f7⟩ := row8c hX13; clear ht9 hb3 hX13; unfold tmV)))
          refine bodyPost_ret (results_c rfl _ _ (w.heap.size + 1) 28 #[.int .i64 y.kind, .int .i64 y.num, .string y.name, .int .i64 y.lv.kind, .int .i64 y.lv.num, .slice q9.A y.lv.kids.length q9.c, .slice q9.B y.ls.length q9.d, .slice q9.K y.kids.length q9.e] (0, 0) _ rfl (set8 HX13.out) Try.underlying28 rfl (by kernel_rfl)) rfl ?_
          exact tm_retS (g := w.heap.size + 1) HT9.out (chg_set8 w3 (w.heap.size + 1) (.int .i64 y.kind) (.int .i64 y.num) (.string y.name) (.int .i64 y.lv.kind) (.int .i64 y.lv.num) (.slice q9.A y.lv.kids.length q9.c) (.slice q9.B y.ls.length q9.d) (.slice q9.K y.kids.length q9.e)) hg0 (by omega) HZ1.out HB3.out HSS.out
        · have HF := Aside0.mk (show y = liftT (0) (-1048576) t by rw [HYO.out]; congr 1 <;> omega)
          go_wp2_with (first
            | (refine wpList_load_row rfl 28 _ rfl (w.heap.size) rfl 28 _ (0, 0) _ HX01.out Try.underlying28 rfl (by kernel_rfl) ?_)
            | (go_at_call 62; go_must (refine (tliftS_calls S g0 HSS.out (0) (-1048576) t p w1 HK.out (Nat.le_trans hg0 HB1.out.size) (by omega) (by omega) HIN1.out).mono ?_; rw [← HF.out]; rintro e w3 ⟨q9, rfl, ht9, hb3⟩; have HT9 := Aside0.mk ht9; have hX13 := (hb3.block _ (blk_lt HX11.out)).trans HX11.out; have HX13 := Aside0.mk hX13; have HB3 := Aside0.mk (below_then HB1.out HB1.out.size hb3); obtain ⟨r0, r1, r2, r3, r4, r5, r6, r7, f0, f1, f2, f3, f4, f5, f6, f7⟩ := row8c hX13; clear ht9 hb3 hX13; unfold tmV)))
          refine bodyPost_ret (results_c rfl _ _ (w.heap.size + 1) 28 #[.int .i64 y.kind, .int .i64 y.num, .string y.name, .int .i64 y.lv.kind, .int .i64 y.lv.num, .slice q9.A y.lv.kids.length q9.c, .slice q9.B y.ls.length q9.d, .slice q9.K y.kids.length q9.e] (0, 0) _ rfl (set8 HX13.out) Try.underlying28 rfl (by kernel_rfl)) rfl ?_
          exact tm_retS (g := w.heap.size + 1) HT9.out (chg_set8 w3 (w.heap.size + 1) (.int .i64 y.kind) (.int .i64 y.num) (.string y.name) (.int .i64 y.lv.kind) (.int .i64 y.lv.num) (.slice q9.A y.lv.kids.length q9.c) (.slice q9.B y.ls.length q9.d) (.slice q9.K y.kids.length q9.e)) hg0 (by omega) HZ1.out HB3.out HSS.out
      · have hb1' : 1048576 < by_ := by omega
        have HF := Aside0.mk (show y = liftT (0) (1048576) t by rw [HYO.out]; congr 1 <;> omega)
        go_wp2_with (first
          | (refine wpList_load_row rfl 28 _ rfl (w.heap.size) rfl 28 _ (0, 0) _ HX01.out Try.underlying28 rfl (by kernel_rfl) ?_)
          | (go_at_call 62; go_must (refine (tliftS_calls S g0 HSS.out (0) (1048576) t p w1 HK.out (Nat.le_trans hg0 HB1.out.size) (by omega) (by omega) HIN1.out).mono ?_; rw [← HF.out]; rintro e w3 ⟨q9, rfl, ht9, hb3⟩; have HT9 := Aside0.mk ht9; have hX13 := (hb3.block _ (blk_lt HX11.out)).trans HX11.out; have HX13 := Aside0.mk hX13; have HB3 := Aside0.mk (below_then HB1.out HB1.out.size hb3); obtain ⟨r0, r1, r2, r3, r4, r5, r6, r7, f0, f1, f2, f3, f4, f5, f6, f7⟩ := row8c hX13; clear ht9 hb3 hX13; unfold tmV)))
        refine bodyPost_ret (results_c rfl _ _ (w.heap.size + 1) 28 #[.int .i64 y.kind, .int .i64 y.num, .string y.name, .int .i64 y.lv.kind, .int .i64 y.lv.num, .slice q9.A y.lv.kids.length q9.c, .slice q9.B y.ls.length q9.d, .slice q9.K y.kids.length q9.e] (0, 0) _ rfl (set8 HX13.out) Try.underlying28 rfl (by kernel_rfl)) rfl ?_
        exact tm_retS (g := w.heap.size + 1) HT9.out (chg_set8 w3 (w.heap.size + 1) (.int .i64 y.kind) (.int .i64 y.num) (.string y.name) (.int .i64 y.lv.kind) (.int .i64 y.lv.num) (.slice q9.A y.lv.kids.length q9.c) (.slice q9.B y.ls.length q9.d) (.slice q9.K y.kids.length q9.e)) hg0 (by omega) HZ1.out HB3.out HSS.out
  · have HG := Aside0.mk (show greatB t = true by rw [HGE.out]; simp [hk])
    obtain rfl : zeroT = y := (HY.out.trans (LiftT_no hk)).symm
    clear hk
    go_upto_region 2 with (first
      | (refine wpList_load_row rfl 28 _ rfl (w.heap.size) rfl 28 _ (0, 0) _ HX.out Try.underlying28 rfl (by kernel_rfl) ?_)
      | (go_at_call 55; go_must (refine (great_calls t p W (TmS.mono HIN.out fun k h _ => Nat.lt_of_lt_of_le (HSS.out k h) (Nat.le_trans hg0 HB.out.size))).mono ?_; rintro e w1 ⟨rfl, hb⟩; rw [HG.out]; have HX11 := Aside0.mk ((hb.block _ (blk_lt HX1.out)).trans HX1.out); have HB1 := Aside0.mk (below_then HB.out HB.out.size hb); clear hb)))
    obtain ⟨r0, r1, r2, r3, r4, r5, r6, r7, f0, f1, f2, f3, f4, f5, f6, f7⟩ := row8c HX11.out
    go_wp2
    refine bodyPost_ret (results_c rfl _ _ (w.heap.size + 1) 28 #[.int .i64 0, .int .i64 0, .string ⟨#[]⟩, .int .i64 0, .int .i64 0, .slice none 0 0, .slice none 0 0, .slice none 0 0] (0, 0) _ rfl (set8 HX11.out) Try.underlying28 rfl (by kernel_rfl)) rfl ?_
    exact tm_retS (g := w.heap.size + 1) (m := w.heap.size + 1 + 1) (TmS.zero w1 _) (chg_set8 w1 (w.heap.size + 1) (.int .i64 0) (.int .i64 0) (.string ⟨#[]⟩) (.int .i64 0) (.int .i64 0) (.slice none 0 0) (.slice none 0 0) (.slice none 0 0)) hg0 (by omega) (by omega) HB1.out HSS.out

end Go.Proofs.Ytdboloabpjmgaaa

/-! InsS -/
namespace Go.Proofs.Ytdboloabpjmgaaa
open Go.RowKit Go.Proofs.YtdboloabpjmgaaaW.PrintWords Go.RegionInvYtdboloabpjmgaaa Go.RegionEYtdboloabpjmgaaa

structure RepIsS (S : Nat → Prop) (gv : Nat) (pv : Pl) (v : Tm) (w : World) : Prop where
  box : w.heap[gv]? = some (tmO pv v)
  parts : TmS w S pv v
theorem tvarS_calls (S : Nat → Prop) (n : Int) (w : World) (hn : -9223372036854775808 ≤ n ∧ n ≤ 9223372036854775807) : Calls Try.prog 14 #[.int .i64 n] w (TmGot w S (varT n)) :=
  (tvar_calls 0 n w hn).mono fun e w' ⟨q, h1, h2, h3⟩ => ⟨q, h1, h2.mono fun k h _ => h.elim (fun h => by omega) .inr, h3⟩
set_option maxRecDepth 100000 in
set_option maxHeartbeats 2000000 in
theorem inst2S_calls (S : Nat → Prop) (g0 g1 gv : Nat) (hS : ∀ k, S k → k < g0) (v : Tm) (pv : Pl) (t : Tm) (p : Pl) (b : Int) (w : World) (h01 : g0 ≤ g1) (hgv : gv < g1) (hg1 : g1 ≤ w.heap.size) (hb0 : 0 ≤ b) (hb1 : b ≤ 1000000) (hokv : okT v) (hin : TmS w S p t) (hR : RepIsS S gv pv v w) :
    Calls Try.prog 61 #[tmV p t, .int .i64 b, .pointer (some ⟨gv, 0, none⟩)] w (TmGot w S (instF v t b)) := by
  have hg0 : g0 ≤ w.heap.size := Nat.le_trans h01 hg1
  have hnr := hin.fit.1
  obtain ⟨hn0, hn1⟩ := hnr
  have HOKV := Aside0.mk hokv
  obtain ⟨W, hW⟩ : ∃ W, W = (w.alloc (tmO p t)).alloc (outK 0 (.slice none 0 0)) := ⟨_, rfl⟩
  have hb : Below w.heap.size w W := by rw [hW]; exact below_alloc (below_alloc (Below.refl _ _) _) _
  have HX := Aside0.mk (show W.heap[w.heap.size]? = some (tmO p t) by rw [hW]; exact box0 w _ _)
  have HX1 := Aside0.mk (show W.heap[w.heap.size + 1]? = some (outK 0 (.slice none 0 0)) by rw [hW]; exact box1 w _ _)
  have HZ := Aside0.mk (show W.heap.size = w.heap.size + 1 + 1 by rw [hW]; simp)
  have HB := Aside0.mk hb
  have HIN := Aside0.mk (TmS.stay hin hS (hb.mono hg0))
  have HV := Aside0.mk ((hb.block gv (by omega)).trans hR.box)
  have HVI := Aside0.mk (TmS.stay hR.parts hS (hb.mono hg0))
  have HSS := Aside0.mk hS
  clear hS
  obtain ⟨z, hz⟩ : ∃ z, z = instF v t b := ⟨_, rfl⟩
  have HZZ := Aside0.mk hz
  rw [← hz]
  clear hin hb hz hR hokv
  unfold tmV
  unfold tmO at hW
  go_enter Try.func61, Try.ntmps61
  go_upto_block 0 with (fail)
  rw [← hW]
  clear hW
  obtain ⟨c0, c1, c2, c3, c4, c5, c6, c7⟩ := row8 HX.out
  by_cases k1 : t.kind = 1
  · have e1 : (t.kind == 1) = true := by simp [k1]
    have K1 := Aside0.mk k1
    clear k1
    by_cases k2 : t.num = b
    · have HZA := Aside0.mk (show liftT 0 b v = z from ((HZZ.out).trans (instF_hit K1.out k2)).symm)
      have e2 : (t.num == b) = true := by simp [k2]
      clear k2
      go_wp2_with (first
        | (refine wpList_load_row rfl 28 _ rfl (gv) rfl 28 _ (0, 0) _ HV.out Try.underlying28 rfl (by kernel_rfl) ?_)
        | (go_at_call 62; go_must (refine (TmGot.as (tliftS_calls S g0 HSS.out 0 b v pv W HOKV.out (Nat.le_trans hg0 HB.out.size) (by omega) (by omega) HVI.out) HZA.out).mono ?_; rintro e w3 ⟨q9, rfl, ht9, hb3⟩; have HT9 := Aside0.mk ht9; have hX13 := (hb3.block _ (blk_lt HX1.out)).trans HX1.out; have HX13 := Aside0.mk hX13; have HB3 := Aside0.mk (below_then HB.out HB.out.size hb3); obtain ⟨r0, r1, r2, r3, r4, r5, r6, r7, f0, f1, f2, f3, f4, f5, f6, f7⟩ := row8c hX13; clear ht9 hb3 hX13; unfold tmV)))
      refine bodyPost_ret (results_c rfl _ _ (w.heap.size + 1) 28 #[.int .i64 z.kind, .int .i64 z.num, .string z.name, .int .i64 z.lv.kind, .int .i64 z.lv.num, .slice q9.A z.lv.kids.length q9.c, .slice q9.B z.ls.length q9.d, .slice q9.K z.kids.length q9.e] (0, 0) _ rfl (set8 HX13.out) Try.underlying28 rfl (by kernel_rfl)) rfl ?_
      exact tm_retS (g := w.heap.size + 1) HT9.out (chg_set8 w3 (w.heap.size + 1) (.int .i64 z.kind) (.int .i64 z.num) (.string z.name) (.int .i64 z.lv.kind) (.int .i64 z.lv.num) (.slice q9.A z.lv.kids.length q9.c) (.slice q9.B z.ls.length q9.d) (.slice q9.K z.kids.length q9.e)) hg0 (by omega) (by have := HZ.out; omega) HB3.out HSS.out
    · have e2 : (t.num == b) = false := by simp [k2]
      by_cases k3 : b < t.num
      · have HZA := Aside0.mk (show varT (t.num - 1) = z from ((HZZ.out).trans (instF_far K1.out k3)).symm)
        clear k2
        go_wp2_with (go_at_call 14; go_must (refine (TmGot.as (tvarS_calls S (t.num - 1) W (by omega)) HZA.out).mono ?_; rintro e w3 ⟨q9, rfl, ht9, hb3⟩; have HT9 := Aside0.mk ht9; have hX13 := (hb3.block _ (blk_lt HX1.out)).trans HX1.out; have HX13 := Aside0.mk hX13; have HB3 := Aside0.mk (below_then HB.out HB.out.size hb3); obtain ⟨r0, r1, r2, r3, r4, r5, r6, r7, f0, f1, f2, f3, f4, f5, f6, f7⟩ := row8c hX13; clear ht9 hb3 hX13; unfold tmV))
        refine bodyPost_ret (results_c rfl _ _ (w.heap.size + 1) 28 #[.int .i64 z.kind, .int .i64 z.num, .string z.name, .int .i64 z.lv.kind, .int .i64 z.lv.num, .slice q9.A z.lv.kids.length q9.c, .slice q9.B z.ls.length q9.d, .slice q9.K z.kids.length q9.e] (0, 0) _ rfl (set8 HX13.out) Try.underlying28 rfl (by kernel_rfl)) rfl ?_
        exact tm_retS (g := w.heap.size + 1) HT9.out (chg_set8 w3 (w.heap.size + 1) (.int .i64 z.kind) (.int .i64 z.num) (.string z.name) (.int .i64 z.lv.kind) (.int .i64 z.lv.num) (.slice q9.A z.lv.kids.length q9.c) (.slice q9.B z.ls.length q9.d) (.slice q9.K z.kids.length q9.e)) hg0 (by omega) (by have := HZ.out; omega) HB3.out HSS.out
      · have HZA := Aside0.mk (show nodeP t = z from ((HZZ.out).trans (instF_near (by omega))).symm)
        clear k2
        go_wp2_with (first
          | (refine wpList_load_row rfl 28 _ rfl (w.heap.size) rfl 28 _ (0, 0) _ HX.out Try.underlying28 rfl (by kernel_rfl) ?_)
          | (go_at_call 63; go_must (refine (TmGot.as (node_calls S t p W HIN.out) HZA.out).mono ?_; rintro e w3 ⟨q9, rfl, ht9, hb3⟩; have HT9 := Aside0.mk ht9; have hX13 := (hb3.block _ (blk_lt HX1.out)).trans HX1.out; have HX13 := Aside0.mk hX13; have HB3 := Aside0.mk (below_then HB.out HB.out.size hb3); obtain ⟨r0, r1, r2, r3, r4, r5, r6, r7, f0, f1, f2, f3, f4, f5, f6, f7⟩ := row8c hX13; clear ht9 hb3 hX13; unfold tmV)))
        refine bodyPost_ret (results_c rfl _ _ (w.heap.size + 1) 28 #[.int .i64 z.kind, .int .i64 z.num, .string z.name, .int .i64 z.lv.kind, .int .i64 z.lv.num, .slice q9.A z.lv.kids.length q9.c, .slice q9.B z.ls.length q9.d, .slice q9.K z.kids.length q9.e] (0, 0) _ rfl (set8 HX13.out) Try.underlying28 rfl (by kernel_rfl)) rfl ?_
        exact tm_retS (g := w.heap.size + 1) HT9.out (chg_set8 w3 (w.heap.size + 1) (.int .i64 z.kind) (.int .i64 z.num) (.string z.name) (.int .i64 z.lv.kind) (.int .i64 z.lv.num) (.slice q9.A z.lv.kids.length q9.c) (.slice q9.B z.ls.length q9.d) (.slice q9.K z.kids.length q9.e)) hg0 (by omega) (by have := HZ.out; omega) HB3.out HSS.out
  · have e1 : (t.kind == 1) = false := by simp [k1]
    have HZA := Aside0.mk (show nodeP t = z from ((HZZ.out).trans (instF_no k1)).symm)
    clear k1
    go_wp2_with (first
      | (refine wpList_load_row rfl 28 _ rfl (w.heap.size) rfl 28 _ (0, 0) _ HX.out Try.underlying28 rfl (by kernel_rfl) ?_)
      | (go_at_call 63; go_must (refine (TmGot.as (node_calls S t p W HIN.out) HZA.out).mono ?_; rintro e w3 ⟨q9, rfl, ht9, hb3⟩; have HT9 := Aside0.mk ht9; have hX13 := (hb3.block _ (blk_lt HX1.out)).trans HX1.out; have HX13 := Aside0.mk hX13; have HB3 := Aside0.mk (below_then HB.out HB.out.size hb3); obtain ⟨r0, r1, r2, r3, r4, r5, r6, r7, f0, f1, f2, f3, f4, f5, f6, f7⟩ := row8c hX13; clear ht9 hb3 hX13; unfold tmV)))
    refine bodyPost_ret (results_c rfl _ _ (w.heap.size + 1) 28 #[.int .i64 z.kind, .int .i64 z.num, .string z.name, .int .i64 z.lv.kind, .int .i64 z.lv.num, .slice q9.A z.lv.kids.length q9.c, .slice q9.B z.ls.length q9.d, .slice q9.K z.kids.length q9.e] (0, 0) _ rfl (set8 HX13.out) Try.underlying28 rfl (by kernel_rfl)) rfl ?_
    exact tm_retS (g := w.heap.size + 1) HT9.out (chg_set8 w3 (w.heap.size + 1) (.int .i64 z.kind) (.int .i64 z.num) (.string z.name) (.int .i64 z.lv.kind) (.int .i64 z.lv.num) (.slice q9.A z.lv.kids.length q9.c) (.slice q9.B z.ls.length q9.d) (.slice q9.K z.kids.length q9.e)) hg0 (by omega) (by have := HZ.out; omega) HB3.out HSS.out

theorem rebS_inst (S : Nat → Prop) (g0 g1 gv : Nat) (hS : ∀ k, S k → k < g0) (v : Tm) (pv : Pl) (t : Tm) (p : Pl) (w : World) (hok : okT t) (hokv : okT v) (h01 : g0 ≤ g1) (hgv : gv < g1) (hg1 : g1 ≤ w.heap.size) (hin : TmS w S p t) (hR : RepIsS S gv pv v w) :
    Calls Try.prog 60 #[tmV p t, .int .i64 0, .func (.func 61) #[] #[.pointer (some ⟨gv, 0, none⟩)]] w (TmGot w S (rebP (instF v) t 0)) :=
  reb_Is (instF v) (RepIsS S gv pv v) S g0 g1 h01 hS gv (fun W W' h hs => ⟨(hs gv hgv).trans h.box, h.parts.same fun k hk _ => hs k (Nat.lt_of_lt_of_le (hS k hk) h01)⟩)
    (fun t p b w _ hb0 hb1 hg hin hR => inst2S_calls S g0 g1 gv hS v pv t p b w h01 hgv hg hb0 hb1 hokv hin hR) _ t (Nat.lt_succ_self _) p 0 w (by omega) (by have := hok.2; omega) hg1 hin hR
structure InsBS (w W : World) (S : Nat → Prop) (p pv : Pl) (t v : Tm) : Prop where
  bt : W.heap[w.heap.size]? = some (tmO p t)
  bv : W.heap[w.heap.size + 1]? = some (tmO pv v)
  br : W.heap[w.heap.size + 1 + 1]? = some (outK 0 (.slice none 0 0))
  bel : Below w.heap.size w W
  it : TmS W S p t
  iv : TmS W S pv v
theorem InsBS.far {w W W' : World} {S : Nat → Prop} {g0 : Nat} {p pv : Pl} {t v : Tm} (h : InsBS w W S p pv t v) (hS : ∀ k, S k → k < g0) (hg0 : g0 ≤ w.heap.size) (hb : Below (w.heap.size + 3) W W') : InsBS w W' S p pv t v :=
  ⟨(hb.block _ (by omega)).trans h.bt, (hb.block _ (by omega)).trans h.bv, (hb.block _ (by omega)).trans h.br, Below.trans h.bel (hb.mono (by omega)), h.it.stay hS (hb.mono (by omega)), h.iv.stay hS (hb.mono (by omega))⟩
set_option maxRecDepth 100000 in
set_option maxHeartbeats 4000000 in
theorem InstS_calls (S : Nat → Prop) (g0 : Nat) (hS : ∀ k, S k → k < g0) (t v : Tm) (p pv : Pl) (w : World) (hg0 : g0 ≤ w.heap.size) (hin : TmS w S p t) (hinv : TmS w S pv v) :
    Calls Try.prog 17 #[tmV p t, tmV pv v] w (TmGot w S (InstT t v)) := by
  obtain ⟨W, hW⟩ : ∃ W, W = ((w.alloc (tmO p t)).alloc (tmO pv v)).alloc (outK 0 (.slice none 0 0)) := ⟨_, rfl⟩
  have hb : Below w.heap.size w W := by rw [hW]; exact below_alloc (below_alloc (below_alloc (Below.refl _ _) _) _) _
  have hXR : W.heap[w.heap.size + 1 + 1]? = some (outK 0 (.slice none 0 0)) := by
    rw [hW]
    have := blk_new ((w.alloc (tmO p t)).alloc (tmO pv v)) (outK 0 (.slice none 0 0))
    simpa using this
  have HS := Aside0.mk (show InsBS w W S p pv t v from ⟨by rw [hW]; exact blk_alloc (box0 w _ _) _, by rw [hW]; exact blk_alloc (box1 w _ _) _, hXR, hb, TmS.stay hin hS (hb.mono hg0), TmS.stay hinv hS (hb.mono hg0)⟩)
  have HSS := Aside0.mk hS
  clear hS
  have HZ := Aside0.mk (blk_lt hXR)
  have HMT := Aside0.mk (show ∀ h : okT t, measP t = ((sizeT t : Int), (depthT t : Int)) from fun h => meas_yes h)
  obtain ⟨z, hz⟩ : ∃ z, z = InstT t v := ⟨_, rfl⟩
  have HZZ := Aside0.mk hz
  rw [← hz]
  clear hin hinv hb hz hXR
  unfold tmV
  unfold tmO at hW
  go_enter Try.func17, Try.ntmps17
  go_upto_region 1 with (fail)
  rw [← hW]
  clear hW
  obtain ⟨mt, hmt⟩ : ∃ x, measP t = x := ⟨_, rfl⟩
  obtain ⟨mv, hmv⟩ : ∃ x, measP v = x := ⟨_, rfl⟩
  obtain ⟨s1, d1⟩ := mt
  obtain ⟨s2, d2⟩ := mv
  have HM1 := Aside0.mk hmt
  have HM2 := Aside0.mk hmv
  clear hmt hmv
  go_upto_region 2 with (first
    | (refine wpList_load_row rfl 28 _ rfl (w.heap.size) rfl 28 _ (0, 0) _ HS.out.bt Try.underlying28 rfl (by kernel_rfl) ?_)
    | (go_at_call 57; go_must (refine (measure_calls t p W (TmS.mono HS.out.it fun k h _ => Nat.lt_of_lt_of_le (HSS.out k h) (Nat.le_trans hg0 HS.out.bel.size))).mono ?_; rw [HM1.out]; rintro e w1 ⟨rfl, hb⟩; dsimp only; have hz1 := hb.size; have HBW1 := Aside0.mk hb; clear hb)))
  obtain ⟨W1, hW1⟩ : ∃ W1, W1 = w1.alloc (.cells #[.int .i64 s1] 3 (0, 0)) := ⟨_, rfl⟩
  have hz0 := HZ.out
  have HS1 := Aside0.mk (show InsBS w W1 S p pv t v from HS.out.far HSS.out hg0 (by rw [hW1]; exact (below_alloc HBW1.out _).mono (by omega)))
  have HN1 := Aside0.mk (show NumAt W1 w1.heap.size s1 by rw [hW1]; exact blk_new _ _)
  have hzz1 : w1.heap.size < W1.heap.size := blk_lt HN1.out
  rw [← hW1]
  clear hW1 HS HBW1
  go_upto_region 3 with (first
    | (refine wpList_load_row rfl 28 _ rfl (w.heap.size + 1) rfl 28 _ (0, 0) _ HS1.out.bv Try.underlying28 rfl (by kernel_rfl) ?_)
    | (go_at_call 57; go_must (refine (measure_calls v pv W1 (TmS.mono HS1.out.iv fun k h _ => Nat.lt_of_lt_of_le (HSS.out k h) (Nat.le_trans hg0 HS1.out.bel.size))).mono ?_; rw [HM2.out]; rintro e w2 ⟨rfl, hb⟩; dsimp only; have hz2 := hb.size; have HBW2 := Aside0.mk hb; clear hb)))
  have HS2 := Aside0.mk (HS1.out.far HSS.out hg0 (HBW2.out.mono (by omega)))
  have HN2 := Aside0.mk (show NumAt w2 w1.heap.size s1 from (HBW2.out.block _ hzz1).trans HN1.out)
  clear HS1 HN1
  go_upto_region 4 with (fail)
  obtain ⟨W3, hW3⟩ : ∃ W3, W3 = w2.alloc (.cells #[.int .i64 0] 3 (0, 0)) := ⟨_, rfl⟩
  have hbw3 : Below w2.heap.size w2 W3 := by rw [hW3]; exact below_alloc (Below.refl _ _) _
  have HS3 := Aside0.mk (HS2.out.far HSS.out hg0 (hbw3.mono (by omega)))
  have HN3 := Aside0.mk (show NumAt W3 w1.heap.size s1 from (hbw3.block _ (by omega)).trans HN2.out)
  have HP3 := Aside0.mk (show NumAt W3 w2.heap.size 0 by rw [hW3]; exact blk_new _ _)
  have hzz3 : w2.heap.size < W3.heap.size := blk_lt HP3.out
  rw [← hW3]
  clear hW3 hbw3 HS2 HN2 HBW2
  have HOK := Aside0.mk (show 0 < s1 → okT t from fun h => Classical.byContradiction fun hn => by have e := HM1.out; rw [meas_no hn] at e; simp only [Prod.mk.injEq] at e; omega)
  obtain ⟨fb, fn, hf⟩ : ∃ fb fn, foldP (plF s1) t 1 0 0 = (fb, fn) := ⟨_, _, rfl⟩
  have HF := Aside0.mk hf
  clear hf
  go_upto_region 5 with (first
    | (refine wpList_load_row rfl 28 _ rfl (w.heap.size) rfl 28 _ (0, 0) _ HS3.out.bt Try.underlying28 rfl (by kernel_rfl) ?_)
    | (go_at_call 58; go_must (refine (foldPl_calls t p w.heap.size w2.heap.size w1.heap.size s1 W3 (by omega) (by omega) (by omega) (TmS.mono HS3.out.it fun k h _ => Nat.lt_of_lt_of_le (HSS.out k h) hg0) HP3.out HN3.out HOK.out).mono ?_; rintro e w4 ⟨rfl, hR, hC⟩; rw [HF.out] at hR; rw [HF.out]; dsimp only at hR ⊢; have HR4 := Aside0.mk hR; have hz4 := hC.size; have HS4 := Aside0.mk (HS3.out.far HSS.out hg0 (hC.below (fun k h => by omega) (by omega))); clear hR hC)))
  clear HS3 HN3 HP3
  have c1 := HR4.out.1.cell
  have c2 := HR4.out.2.cell
  by_cases ht : okT t
  · have hS := HM1.out
    rw [meas_yes ht] at hS
    simp only [Prod.mk.injEq] at hS
    have hS1 := ht.1
    have hS0 := size_pos t
    have hpl := pl_val s1 (by omega) _ t (Nat.lt_succ_self _) 1 0 0 (by omega) (by omega)
    rw [HF.out] at hpl
    have hfn : fn = (occT t 0 : Int) := by have := hpl.1; simp only [Prod.mk.injEq] at this; omega
    have hfn2 : 0 ≤ fn ∧ fn ≤ 20000 := by have := hpl.2; omega
    have hs1 : 1 ≤ s1 ∧ s1 ≤ 20000 := by omega
    have hne1 : (s1 == 0) = false := by simp; omega
    have HS1E := Aside0.mk (show s1 = (sizeT t : Int) by omega)
    have HFN := Aside0.mk hfn
    have HT := Aside0.mk ht
    clear hS hpl hfn ht hS1 hS0
    by_cases hv : okT v
    · have hS := HM2.out
      rw [meas_yes hv] at hS
      simp only [Prod.mk.injEq] at hS
      have hS1 := hv.1
      have hS0 := size_pos v
      have hs2 : 1 ≤ s2 ∧ s2 ≤ 20000 := by omega
      have hne2 : (s2 == 0) = false := by simp; omega
      have HS2E := Aside0.mk (show s2 = (sizeT v : Int) by omega)
      have HVV := Aside0.mk hv
      clear hS hv hS1 hS0
      have hpr : 0 ≤ fn * (s2 - 1) ∧ fn * (s2 - 1) ≤ 400000000 := ⟨Int.mul_nonneg hfn2.1 (by omega), Int.le_trans (Int.mul_le_mul hfn2.2 (show s2 - 1 ≤ 20000 by omega) (by omega) (by omega)) (by decide)⟩
      have HIS := Aside0.mk (show instS t v = s1 + fn * (s2 - 1) by unfold instS; rw [HS1E.out, HFN.out, HS2E.out])
      obtain ⟨hp0, hp1⟩ := hpr
      obtain ⟨hfn0, hfn1⟩ := hfn2
      obtain ⟨hs10, hs11⟩ := hs1
      obtain ⟨hs20, hs21⟩ := hs2
      by_cases hbig : 20000 < s1 + fn * (s2 - 1)
      · obtain rfl : zeroT = z := (HZZ.out.trans (InstT_no (fun h => by have := h.2.2; rw [HIS.out] at this; omega))).symm
        go_upto_region 6 with (fail)
        obtain ⟨r0, r1, r2, r3, r4, r5, r6, r7, f0, f1, f2, f3, f4, f5, f6, f7⟩ := row8c HS4.out.br
        go_wp2
        refine bodyPost_ret (results_c rfl _ _ (w.heap.size + 1 + 1) 28 #[.int .i64 0, .int .i64 0, .string ⟨#[]⟩, .int .i64 0, .int .i64 0, .slice none 0 0, .slice none 0 0, .slice none 0 0] (0, 0) _ rfl (set8 HS4.out.br) Try.underlying28 rfl (by kernel_rfl)) rfl ?_
        exact tm_retS (g := w.heap.size + 1 + 1) (m := w.heap.size + 1 + 1 + 1) (TmS.zero w4 _) (chg_set8 w4 (w.heap.size + 1 + 1) (.int .i64 0) (.int .i64 0) (.string ⟨#[]⟩) (.int .i64 0) (.int .i64 0) (.slice none 0 0) (.slice none 0 0) (.slice none 0 0)) hg0 (by omega) (by omega) HS4.out.bel HSS.out
      · have HZI := Aside0.mk (HZZ.out.trans (InstT_ok HT.out HVV.out (by rw [HIS.out]; omega)))
        obtain ⟨y, hy⟩ : ∃ y, y = rebP (instF v) t 0 := ⟨_, rfl⟩
        have HY := Aside0.mk hy
        rw [← hy] at HZI
        clear hy
        go_upto_region 8 with (first
          | (refine wpList_load_row rfl 28 _ rfl (w.heap.size) rfl 28 _ (0, 0) _ HS4.out.bt Try.underlying28 rfl (by kernel_rfl) ?_)
          | (go_at_call 60; go_must (refine (TmGot.as (rebS_inst S g0 (w.heap.size + 2) (w.heap.size + 1) HSS.out v pv t p w4 HT.out HVV.out (by omega) (by omega) (by omega) HS4.out.it ⟨HS4.out.bv, HS4.out.iv⟩) HY.out.symm).mono ?_; rintro e w5 ⟨q9, rfl, ht9, hb5⟩; have HT5 := Aside0.mk (TmS.mono (S' := fun k => (S k ∨ w4.heap.size ≤ k) ∧ k < w5.heap.size) ht9 fun k h hz => ⟨h, hz⟩); have hz5 := hb5.size; have HS5 := Aside0.mk (HS4.out.far HSS.out hg0 (hb5.mono (by omega))); clear ht9 hb5; unfold tmV)))
        clear HS4 HR4 c1 c2
        obtain ⟨W6, hW6⟩ : ∃ W6, W6 = w5.alloc (tmO q9 y) := ⟨_, rfl⟩
        have hb6 : Below w5.heap.size w5 W6 := by rw [hW6]; exact below_alloc (Below.refl _ _) _
        have HO6 := Aside0.mk (show W6.heap[w5.heap.size]? = some (tmO q9 y) by rw [hW6]; exact blk_new _ _)
        have HS6 := Aside0.mk (HS5.out.far HSS.out hg0 (hb6.mono (by omega)))
        have HT6 := Aside0.mk (HT5.out.later hb6)
        have hz6 := hb6.size
        have HGE := Aside0.mk (great_eq y)
        unfold tmO at hW6
        rw [← hW6]
        clear hW6 hb6 HS5 HT5
        by_cases hk : okT y
        · have HG := Aside0.mk (show greatB y = false by rw [HGE.out]; simp [hk])
          obtain rfl : y = z := (HZI.out.trans (fitT_ok hk)).symm
          clear hk
          go_upto_region 10 with (first
            | (refine wpList_load_row rfl 28 _ rfl (w5.heap.size) rfl 28 _ (0, 0) _ HO6.out Try.underlying28 rfl (by kernel_rfl) ?_)
            | (go_at_call 55; go_must (refine (great_calls y q9 W6 (TmS.all HT6.out)).mono ?_; rintro e w7 ⟨rfl, hb⟩; rw [HG.out]; have HO7 := Aside0.mk ((hb.block _ (blk_lt HO6.out)).trans HO6.out); have HT7 := Aside0.mk (HT6.out.later hb); have HS7 := Aside0.mk (HS6.out.far HSS.out hg0 (hb.mono (by omega))); clear hb)))
          obtain ⟨o0, o1, o2, o3, o4, o5, o6, o7⟩ := row8 HO7.out
          have hXR7 := HS7.out.br
          obtain ⟨r0, r1, r2, r3, r4, r5, r6, r7, f0, f1, f2, f3, f4, f5, f6, f7⟩ := row8c hXR7
          go_wp2
          refine bodyPost_ret (results_c rfl _ _ (w.heap.size + 1 + 1) 28 #[.int .i64 y.kind, .int .i64 y.num, .string y.name, .int .i64 y.lv.kind, .int .i64 y.lv.num, .slice q9.A y.lv.kids.length q9.c, .slice q9.B y.ls.length q9.d, .slice q9.K y.kids.length q9.e] (0, 0) _ rfl (set8 HS7.out.br) Try.underlying28 rfl (by kernel_rfl)) rfl ?_
          exact tm_retS (g := w.heap.size + 1 + 1) (m := w4.heap.size) (TmS.mono HT7.out fun k h _ => h.1) (chg_set8 w7 (w.heap.size + 1 + 1) (.int .i64 y.kind) (.int .i64 y.num) (.string y.name) (.int .i64 y.lv.kind) (.int .i64 y.lv.num) (.slice q9.A y.lv.kids.length q9.c) (.slice q9.B y.ls.length q9.d) (.slice q9.K y.kids.length q9.e)) hg0 (by omega) (by omega) HS7.out.bel HSS.out
        · have HG := Aside0.mk (show greatB y = true by rw [HGE.out]; simp [hk])
          obtain rfl : zeroT = z := (HZI.out.trans (fitT_no hk)).symm
          clear hk
          go_upto_region 9 with (first
            | (refine wpList_load_row rfl 28 _ rfl (w5.heap.size) rfl 28 _ (0, 0) _ HO6.out Try.underlying28 rfl (by kernel_rfl) ?_)
            | (go_at_call 55; go_must (refine (great_calls y q9 W6 (TmS.all HT6.out)).mono ?_; rintro e w7 ⟨rfl, hb⟩; rw [HG.out]; have HS7 := Aside0.mk (HS6.out.far HSS.out hg0 (hb.mono (by omega))); clear hb)))
          obtain ⟨r0, r1, r2, r3, r4, r5, r6, r7, f0, f1, f2, f3, f4, f5, f6, f7⟩ := row8c HS7.out.br
          go_wp2
          refine bodyPost_ret (results_c rfl _ _ (w.heap.size + 1 + 1) 28 #[.int .i64 0, .int .i64 0, .string ⟨#[]⟩, .int .i64 0, .int .i64 0, .slice none 0 0, .slice none 0 0, .slice none 0 0] (0, 0) _ rfl (set8 HS7.out.br) Try.underlying28 rfl (by kernel_rfl)) rfl ?_
          exact tm_retS (g := w.heap.size + 1 + 1) (m := w.heap.size + 1 + 1 + 1) (TmS.zero w7 _) (chg_set8 w7 (w.heap.size + 1 + 1) (.int .i64 0) (.int .i64 0) (.string ⟨#[]⟩) (.int .i64 0) (.int .i64 0) (.slice none 0 0) (.slice none 0 0) (.slice none 0 0)) hg0 (by omega) (by omega) HS7.out.bel HSS.out
    · have hS := HM2.out
      rw [meas_no hv] at hS
      simp only [Prod.mk.injEq] at hS
      have hne2 : (s2 == 0) = true := by simp; omega
      obtain rfl : zeroT = z := (HZZ.out.trans (InstT_no (fun h => hv h.2.1))).symm
      clear hS hv
      go_upto_region 6 with (fail)
      obtain ⟨r0, r1, r2, r3, r4, r5, r6, r7, f0, f1, f2, f3, f4, f5, f6, f7⟩ := row8c HS4.out.br
      go_wp2
      refine bodyPost_ret (results_c rfl _ _ (w.heap.size + 1 + 1) 28 #[.int .i64 0, .int .i64 0, .string ⟨#[]⟩, .int .i64 0, .int .i64 0, .slice none 0 0, .slice none 0 0, .slice none 0 0] (0, 0) _ rfl (set8 HS4.out.br) Try.underlying28 rfl (by kernel_rfl)) rfl ?_
      exact tm_retS (g := w.heap.size + 1 + 1) (m := w.heap.size + 1 + 1 + 1) (TmS.zero w4 _) (chg_set8 w4 (w.heap.size + 1 + 1) (.int .i64 0) (.int .i64 0) (.string ⟨#[]⟩) (.int .i64 0) (.int .i64 0) (.slice none 0 0) (.slice none 0 0) (.slice none 0 0)) hg0 (by omega) (by omega) HS4.out.bel HSS.out
  · have hS := HM1.out
    rw [meas_no ht] at hS
    simp only [Prod.mk.injEq] at hS
    have hne1 : (s1 == 0) = true := by simp; omega
    obtain rfl : zeroT = z := (HZZ.out.trans (InstT_no (fun h => ht h.1))).symm
    clear hS ht
    go_upto_region 6 with (fail)
    obtain ⟨r0, r1, r2, r3, r4, r5, r6, r7, f0, f1, f2, f3, f4, f5, f6, f7⟩ := row8c HS4.out.br
    go_wp2
    refine bodyPost_ret (results_c rfl _ _ (w.heap.size + 1 + 1) 28 #[.int .i64 0, .int .i64 0, .string ⟨#[]⟩, .int .i64 0, .int .i64 0, .slice none 0 0, .slice none 0 0, .slice none 0 0] (0, 0) _ rfl (set8 HS4.out.br) Try.underlying28 rfl (by kernel_rfl)) rfl ?_
    exact tm_retS (g := w.heap.size + 1 + 1) (m := w.heap.size + 1 + 1 + 1) (TmS.zero w4 _) (chg_set8 w4 (w.heap.size + 1 + 1) (.int .i64 0) (.int .i64 0) (.string ⟨#[]⟩) (.int .i64 0) (.int .i64 0) (.slice none 0 0) (.slice none 0 0) (.slice none 0 0)) hg0 (by omega) (by omega) HS4.out.bel HSS.out

end Go.Proofs.Ytdboloabpjmgaaa

/-! TBkR -/
namespace Go.Proofs.Ytdboloabpjmgaaa
open Go.RowKit Go.Proofs.YtdboloabpjmgaaaW.PrintWords Go.RegionInvYtdboloabpjmgaaa Go.RegionEYtdboloabpjmgaaa
set_option linter.unusedVariables false

def tk4_ops : List Oper := [
  { dst := some 31, op := Go.Op.load 28 (Go.Operand.tmp 5), type := 28, pos := "law.go:148", after := #[], guard := none },
  { dst := some 32, op := Go.Op.call { callee := Go.Callee.value (Go.Operand.func 23), args := #[Go.Operand.tmp 31, Go.Operand.const (Go.Value.int Go.IntKind.i64 0), Go.Operand.const (Go.Value.int Go.IntKind.i64 1)], argTypes := #[28, 3, 3] }, type := 28, pos := "law.go:148", after := #[{ on := 0, ground := Go.Ground.data }], guard := none },
  { dst := some 33, op := Go.Op.load 28 (Go.Operand.tmp 6), type := 28, pos := "law.go:148", after := #[], guard := none },
  { dst := some 34, op := Go.Op.call { callee := Go.Callee.value (Go.Operand.func 17), args := #[Go.Operand.tmp 32, Go.Operand.tmp 33], argTypes := #[28, 28] }, type := 28, pos := "law.go:148", after := #[{ on := 1, ground := Go.Ground.data }, { on := 2, ground := Go.Ground.data }, { on := 1, ground := Go.Ground.chain }], guard := none },
  { dst := some 35, op := Go.Op.load 28 (Go.Operand.tmp 5), type := 28, pos := "law.go:148", after := #[], guard := none },
  { dst := some 36, op := Go.Op.call { callee := Go.Callee.value (Go.Operand.func 48), args := #[Go.Operand.tmp 34, Go.Operand.tmp 35], argTypes := #[28, 28] }, type := 4, pos := "law.go:148", after := #[{ on := 3, ground := Go.Ground.data }, { on := 4, ground := Go.Ground.data }, { on := 3, ground := Go.Ground.chain }], guard := none },
  { dst := some 37, op := Go.Op.unOp Go.UnOp.not 4 (Go.Operand.tmp 36), type := 4, pos := "law.go:148", after := #[{ on := 5, ground := Go.Ground.data }], guard := none },
  { dst := some 38, op := Go.Op.move (Go.Operand.tmp 37), type := 4, pos := "law.go:148", after := #[{ on := 6, ground := Go.Ground.data }, { on := 5, ground := Go.Ground.chain }], guard := none },
  { dst := some 39, op := Go.Op.load 28 (Go.Operand.tmp 5), type := 28, pos := "law.go:148", after := #[{ on := 7, ground := Go.Ground.guard }], guard := some (7, false) },
  { dst := some 40, op := Go.Op.move (Go.Operand.tmp 2), type := 3, pos := "law.go:148", after := #[{ on := 7, ground := Go.Ground.guard }], guard := some (7, false) },
  { dst := some 41, op := Go.Op.move (Go.Operand.tmp 3), type := 3, pos := "law.go:148", after := #[{ on := 7, ground := Go.Ground.guard }], guard := some (7, false) },
  { dst := some 42, op := Go.Op.call { callee := Go.Callee.value (Go.Operand.func 23), args := #[Go.Operand.tmp 39, Go.Operand.tmp 40, Go.Operand.tmp 41], argTypes := #[28, 3, 3] }, type := 28, pos := "law.go:148", after := #[{ on := 8, ground := Go.Ground.data }, { on := 9, ground := Go.Ground.data }, { on := 10, ground := Go.Ground.data }, { on := 7, ground := Go.Ground.chain }, { on := 7, ground := Go.Ground.guard }], guard := some (7, false) },
  { dst := some 43, op := Go.Op.move (Go.Operand.tmp 2), type := 3, pos := "law.go:148", after := #[{ on := 7, ground := Go.Ground.guard }], guard := some (7, false) },
  { dst := some 44, op := Go.Op.move (Go.Operand.tmp 4), type := 3, pos := "law.go:148", after := #[{ on := 7, ground := Go.Ground.guard }], guard := some (7, false) },
  { dst := some 45, op := Go.Op.call { callee := Go.Callee.value (Go.Operand.func 23), args := #[Go.Operand.tmp 42, Go.Operand.tmp 43, Go.Operand.tmp 44], argTypes := #[28, 3, 3] }, type := 28, pos := "law.go:148", after := #[{ on := 11, ground := Go.Ground.data }, { on := 12, ground := Go.Ground.data }, { on := 13, ground := Go.Ground.data }, { on := 11, ground := Go.Ground.chain }, { on := 7, ground := Go.Ground.guard }], guard := some (7, false) },
  { dst := some 46, op := Go.Op.load 28 (Go.Operand.tmp 5), type := 28, pos := "law.go:148", after := #[{ on := 7, ground := Go.Ground.guard }], guard := some (7, false) },
  { dst := some 47, op := Go.Op.move (Go.Operand.tmp 2), type := 3, pos := "law.go:148", after := #[{ on := 7, ground := Go.Ground.guard }], guard := some (7, false) },
  { dst := some 48, op := Go.Op.move (Go.Operand.tmp 3), type := 3, pos := "law.go:148", after := #[{ on := 7, ground := Go.Ground.guard }], guard := some (7, false) },
  { dst := some 49, op := Go.Op.move (Go.Operand.tmp 4), type := 3, pos := "law.go:148", after := #[{ on := 7, ground := Go.Ground.guard }], guard := some (7, false) },
  { dst := some 50, op := Go.Op.binOp Go.BinOp.add 3 (Go.Operand.tmp 48) (Go.Operand.tmp 49) 3, type := 3, pos := "law.go:148", after := #[{ on := 17, ground := Go.Ground.data }, { on := 18, ground := Go.Ground.data }, { on := 7, ground := Go.Ground.guard }], guard := some (7, false) },
  { dst := some 51, op := Go.Op.call { callee := Go.Callee.value (Go.Operand.func 23), args := #[Go.Operand.tmp 46, Go.Operand.tmp 47, Go.Operand.tmp 50], argTypes := #[28, 3, 3] }, type := 28, pos := "law.go:148", after := #[{ on := 15, ground := Go.Ground.data }, { on := 16, ground := Go.Ground.data }, { on := 19, ground := Go.Ground.data }, { on := 14, ground := Go.Ground.chain }, { on := 7, ground := Go.Ground.guard }], guard := some (7, false) },
  { dst := some 52, op := Go.Op.call { callee := Go.Callee.value (Go.Operand.func 48), args := #[Go.Operand.tmp 45, Go.Operand.tmp 51], argTypes := #[28, 28] }, type := 4, pos := "law.go:148", after := #[{ on := 14, ground := Go.Ground.data }, { on := 20, ground := Go.Ground.data }, { on := 20, ground := Go.Ground.chain }, { on := 7, ground := Go.Ground.guard }], guard := some (7, false) },
  { dst := some 53, op := Go.Op.unOp Go.UnOp.not 4 (Go.Operand.tmp 52), type := 4, pos := "law.go:148", after := #[{ on := 21, ground := Go.Ground.data }, { on := 7, ground := Go.Ground.guard }], guard := some (7, false) },
  { dst := some 54, op := Go.Op.pick (Go.Operand.tmp 38) (Go.Operand.const (Go.Value.bool true)) (Go.Operand.tmp 53), type := 4, pos := "law.go:148", after := #[{ on := 7, ground := Go.Ground.data }, { on := 22, ground := Go.Ground.data }], guard := none },
  { dst := some 55, op := Go.Op.move (Go.Operand.tmp 54), type := 4, pos := "law.go:148", after := #[{ on := 23, ground := Go.Ground.data }, { on := 21, ground := Go.Ground.chain }], guard := none },
  { dst := some 56, op := Go.Op.load 28 (Go.Operand.tmp 5), type := 28, pos := "law.go:148", after := #[{ on := 24, ground := Go.Ground.guard }], guard := some (24, false) },
  { dst := some 57, op := Go.Op.move (Go.Operand.tmp 2), type := 3, pos := "law.go:148", after := #[{ on := 24, ground := Go.Ground.guard }], guard := some (24, false) },
  { dst := some 58, op := Go.Op.call { callee := Go.Callee.value (Go.Operand.func 23), args := #[Go.Operand.tmp 56, Go.Operand.tmp 57, Go.Operand.const (Go.Value.int Go.IntKind.i64 0)], argTypes := #[28, 3, 3] }, type := 28, pos := "law.go:148", after := #[{ on := 25, ground := Go.Ground.data }, { on := 26, ground := Go.Ground.data }, { on := 24, ground := Go.Ground.chain }, { on := 24, ground := Go.Ground.guard }], guard := some (24, false) },
  { dst := some 59, op := Go.Op.load 28 (Go.Operand.tmp 5), type := 28, pos := "law.go:148", after := #[{ on := 24, ground := Go.Ground.guard }], guard := some (24, false) },
  { dst := some 60, op := Go.Op.call { callee := Go.Callee.value (Go.Operand.func 48), args := #[Go.Operand.tmp 58, Go.Operand.tmp 59], argTypes := #[28, 28] }, type := 4, pos := "law.go:148", after := #[{ on := 27, ground := Go.Ground.data }, { on := 28, ground := Go.Ground.data }, { on := 27, ground := Go.Ground.chain }, { on := 24, ground := Go.Ground.guard }], guard := some (24, false) },
  { dst := some 61, op := Go.Op.unOp Go.UnOp.not 4 (Go.Operand.tmp 60), type := 4, pos := "law.go:148", after := #[{ on := 29, ground := Go.Ground.data }, { on := 24, ground := Go.Ground.guard }], guard := some (24, false) },
  { dst := some 62, op := Go.Op.pick (Go.Operand.tmp 55) (Go.Operand.const (Go.Value.bool true)) (Go.Operand.tmp 61), type := 4, pos := "law.go:148", after := #[{ on := 24, ground := Go.Ground.data }, { on := 30, ground := Go.Ground.data }], guard := none }]
def tk4_F (w0 : World) (B : Nat) (ga : Nat) (pa : Pl) (ta : Tm) (gb : Nat) (pb : Pl) (tb : Tm) (fr x y : Int) : Nat → (Nat → Value) → Value → World → (Nat → Prop) → Prop := fun rix => match rix with
  | 0 => fun _ v _ _ => v = tmV pa ta
  | 1 => fun τ v w O => TmO (fun k => k < B) (LiftT ta 0 1) v w O
  | 2 => fun _ v _ _ => v = tmV pb tb
  | 3 => fun τ v w O => TmO (fun k => k < B) (InstT (LiftT ta 0 1) tb) v w O
  | 4 => fun _ v _ _ => v = tmV pa ta
  | 5 => fun _ v _ _ => v = .bool true
  | 6 => fun _ v _ _ => v = .bool false
  | 7 => fun _ v _ _ => v = .bool false
  | 8 => fun _ v _ _ => v = tmV pa ta
  | 9 => fun _ v _ _ => v = .int .i64 fr
  | 10 => fun _ v _ _ => v = .int .i64 x
  | 11 => fun τ v w O => TmO (fun k => k < B) (LiftT ta fr x) v w O
  | 12 => fun _ v _ _ => v = .int .i64 fr
  | 13 => fun _ v _ _ => v = .int .i64 y
  | 14 => fun τ v w O => TmO (fun k => k < B) (LiftT (LiftT ta fr x) fr y) v w O
  | 15 => fun _ v _ _ => v = tmV pa ta
  | 16 => fun _ v _ _ => v = .int .i64 fr
  | 17 => fun _ v _ _ => v = .int .i64 x
  | 18 => fun _ v _ _ => v = .int .i64 y
  | 19 => fun _ v _ _ => v = .int .i64 (x + y)
  | 20 => fun τ v w O => TmO (fun k => k < B) (LiftT ta fr (x + y)) v w O
  | 21 => fun _ v _ _ => v = .bool true
  | 22 => fun _ v _ _ => v = .bool false
  | 23 => fun _ v _ _ => v = .bool false
  | 24 => fun _ v _ _ => v = .bool false
  | 25 => fun _ v _ _ => v = tmV pa ta
  | 26 => fun _ v _ _ => v = .int .i64 fr
  | 27 => fun τ v w O => TmO (fun k => k < B) (LiftT ta fr 0) v w O
  | 28 => fun _ v _ _ => v = tmV pa ta
  | 29 => fun _ v _ _ => v = .bool true
  | 30 => fun _ v _ _ => v = .bool false
  | 31 => fun _ v _ _ => v = .bool false
  | _ => fun _ _ _ _ => True
def tk4_C : Nat → List Nat := fun rix => match rix with
  | 3 => [1]
  | 14 => [11]
  | _ => []
theorem tk4_nw2 : nwB tk4_ops.toArray 2 = true := by kernel_rfl
theorem tk4_nw3 : nwB tk4_ops.toArray 3 = true := by kernel_rfl
theorem tk4_nw4 : nwB tk4_ops.toArray 4 = true := by kernel_rfl
theorem tk4_nw5 : nwB tk4_ops.toArray 5 = true := by kernel_rfl
theorem tk4_nw6 : nwB tk4_ops.toArray 6 = true := by kernel_rfl
set_option maxRecDepth 100000 in
set_option maxHeartbeats 8000000 in
theorem tk4_obs (w0 : World) (B : Nat) (ga : Nat) (pa : Pl) (ta : Tm) (gb : Nat) (pb : Pl) (tb : Tm) (fr x y : Int) (hB : B ≤ w0.heap.size) (hx5 : w0.heap[ga]? = some (tmO pa ta)) (hin5 : TmIn w0 B pa ta) (hx6 : w0.heap[gb]? = some (tmO pb tb)) (hin6 : TmIn w0 B pb tb) (hr : 0 ≤ x ∧ x ≤ 1000 ∧ 0 ≤ y ∧ y ≤ 1000) (hs1 : SameT (InstT (LiftT ta 0 1) tb) ta = true) (hs2 : SameT (LiftT (LiftT ta fr x) fr y) (LiftT ta fr (x + y)) = true) (hs3 : SameT (LiftT ta fr 0) ta = true) (Q : Exit → Act → World → Prop) (a0 : Act) (hi2 : a0.tmps.getD 2 undef = .int .i64 fr) (hi3 : a0.tmps.getD 3 undef = .int .i64 x) (hi4 : a0.tmps.getD 4 undef = .int .i64 y) (hi5 : a0.tmps.getD 5 undef = .pointer (some ⟨ga, 0, none⟩)) (hi6 : a0.tmps.getD 6 undef = .pointer (some ⟨gb, 0, none⟩)) :
    ObsE Try.prog tk4_ops.toArray Q (est2 0 0 (fun _ => False) (fun _ => False)) tk4_C (tk4_F w0 B ga pa ta gb pb tb fr x y) a0 w0 tk4_ops.toArray.toList 0 := by
  have nw2 := tk4_nw2
  have nw3 := tk4_nw3
  have nw4 := tk4_nw4
  have nw5 := tk4_nw5
  have nw6 := tk4_nw6
  refine ⟨?_, ?_, ?_, ?_, ?_, ?_, ?_, ?_, ?_, ?_, ?_, ?_, ?_, ?_, ?_, ?_, ?_, ?_, ?_, ?_, ?_, ?_, ?_, ?_, ?_, ?_, ?_, ?_, ?_, ?_, ?_, ?_, trivial⟩
  · refine ⟨⟨fun τ => stableE_det _, leans_not⟩, ?_⟩
    intro a w O hk
    have e5 : a.eval (.tmp 5) = .pointer (some ⟨ga, 0, none⟩) := (hk.init 5 (initialB_of_nw nw5)).trans hi5
    have x5 := hk.world.still hx5 (fun ⟨_, h⟩ => h.elim And.right And.right)
    have x6 := hk.world.still hx6 (fun ⟨_, h⟩ => h.elim And.right And.right)
    have hfx : ∀ k, k < B → w.heap[k]? = w0.heap[k]? := fun k hk' => hk.fix k ((fun k hk' => est2_fix (Nat.lt_of_lt_of_le hk' hB) (fun e => e.elim) (fun e => e.elim)) k hk')
    have hsz := hk.world.size
    have y5 := hin5.same (w' := w) (fun k hk' _ => hfx k hk')
    have y6 := hin6.same (w' := w) (fun k hk' _ => hfx k hk')
    exact obE_loadRow rfl e5 x5 Try.underlying28 rfl (by kernel_rfl) (wanted_none rfl) rfl
  · refine ⟨⟨fun τ => stableE_tm (fun k hk' => est2_fix (Nat.lt_of_lt_of_le hk' hB) (fun e => e.elim) (fun e => e.elim)), leans_not⟩, ?_⟩
    intro a w O hk
    have e31 : a.eval (.tmp 31) = tmV pa ta := hk.fact 0 _ 31 rfl rfl rfl rfl
    have x5 := hk.world.still hx5 (fun ⟨_, h⟩ => h.elim And.right And.right)
    have x6 := hk.world.still hx6 (fun ⟨_, h⟩ => h.elim And.right And.right)
    have hfx : ∀ k, k < B → w.heap[k]? = w0.heap[k]? := fun k hk' => hk.fix k ((fun k hk' => est2_fix (Nat.lt_of_lt_of_le hk' hB) (fun e => e.elim) (fun e => e.elim)) k hk')
    have hsz := hk.world.size
    have y5 := hin5.same (w' := w) (fun k hk' _ => hfx k hk')
    have y6 := hin6.same (w' := w) (fun k hk' _ => hfx k hk')
    exact obE_tmCall #[tmV pa ta, .int .i64 0, .int .i64 1] rfl rfl rfl rfl (by simp only [List.map_cons, List.map_nil]; rw [e31]; try rfl) (wanted_none rfl) ((LiftS_calls (fun k => k < B) w.heap.size (fun k h => Nat.lt_of_lt_of_le h (Nat.le_trans hB hsz)) (0) (1) ta pa w (Nat.le_refl _) (TmS.mono y5 fun k h _ => h)).mono fun e w' ⟨q9, h1, h2, h3⟩ => ⟨q9, h1, h2.mono fun k h _ => h.elim (fun h => .inl (.inl h)) .inr, h3⟩)
  · refine ⟨⟨fun τ => stableE_det _, leans_not⟩, ?_⟩
    intro a w O hk
    have e6 : a.eval (.tmp 6) = .pointer (some ⟨gb, 0, none⟩) := (hk.init 6 (initialB_of_nw nw6)).trans hi6
    have x5 := hk.world.still hx5 (fun ⟨_, h⟩ => h.elim And.right And.right)
    have x6 := hk.world.still hx6 (fun ⟨_, h⟩ => h.elim And.right And.right)
    have hfx : ∀ k, k < B → w.heap[k]? = w0.heap[k]? := fun k hk' => hk.fix k ((fun k hk' => est2_fix (Nat.lt_of_lt_of_le hk' hB) (fun e => e.elim) (fun e => e.elim)) k hk')
    have hsz := hk.world.size
    have y5 := hin5.same (w' := w) (fun k hk' _ => hfx k hk')
    have y6 := hin6.same (w' := w) (fun k hk' _ => hfx k hk')
    exact obE_loadRow rfl e6 x6 Try.underlying28 rfl (by kernel_rfl) (wanted_none rfl) rfl
  · refine ⟨⟨fun τ => stableE_tm (fun k hk' => est2_fix (Nat.lt_of_lt_of_le hk' hB) (fun e => e.elim) (fun e => e.elim)), leans_not⟩, ?_⟩
    intro a w O hk
    have f32 := hk.fact 1 _ 32 rfl rfl rfl rfl
    have g32 := hk.owns 1 rfl rfl
    have e33 : a.eval (.tmp 33) = tmV pb tb := hk.fact 2 _ 33 rfl rfl rfl rfl
    have x5 := hk.world.still hx5 (fun ⟨_, h⟩ => h.elim And.right And.right)
    have x6 := hk.world.still hx6 (fun ⟨_, h⟩ => h.elim And.right And.right)
    have hfx : ∀ k, k < B → w.heap[k]? = w0.heap[k]? := fun k hk' => hk.fix k ((fun k hk' => est2_fix (Nat.lt_of_lt_of_le hk' hB) (fun e => e.elim) (fun e => e.elim)) k hk')
    have hsz := hk.world.size
    have y5 := hin5.same (w' := w) (fun k hk' _ => hfx k hk')
    have y6 := hin6.same (w' := w) (fun k hk' _ => hfx k hk')
    obtain ⟨q32, z32, h32⟩ := f32
    replace z32 : a.eval (.tmp 32) = _ := z32
    exact obE_tmCall #[tmV q32 (LiftT ta 0 1), tmV pb tb] rfl rfl rfl rfl (by simp only [List.map_cons, List.map_nil]; rw [z32, e33]; try rfl) (wanted_none rfl) ((InstS_calls (fun k => k < B ∨ O 1 k) w.heap.size (fun k h => h.elim (fun h => Nat.lt_of_lt_of_le h (Nat.le_trans hB hsz)) fun h => (g32 k h).1) (LiftT ta 0 1) tb q32 pb w (Nat.le_refl _) (TmS.mono h32 fun k h _ => h.imp id id) (TmS.mono y6 fun k h _ => .inl h)).mono fun e w' ⟨q9, h1, h2, h3⟩ => ⟨q9, h1, h2.mono fun k h _ => h.elim (fun h => .inl (h.elim .inl fun h => .inr (.inl ⟨1, by simp [tk4_C], h⟩))) .inr, h3⟩)
  · refine ⟨⟨fun τ => stableE_det _, leans_not⟩, ?_⟩
    intro a w O hk
    have e5 : a.eval (.tmp 5) = .pointer (some ⟨ga, 0, none⟩) := (hk.init 5 (initialB_of_nw nw5)).trans hi5
    have x5 := hk.world.still hx5 (fun ⟨_, h⟩ => h.elim And.right And.right)
    have x6 := hk.world.still hx6 (fun ⟨_, h⟩ => h.elim And.right And.right)
    have hfx : ∀ k, k < B → w.heap[k]? = w0.heap[k]? := fun k hk' => hk.fix k ((fun k hk' => est2_fix (Nat.lt_of_lt_of_le hk' hB) (fun e => e.elim) (fun e => e.elim)) k hk')
    have hsz := hk.world.size
    have y5 := hin5.same (w' := w) (fun k hk' _ => hfx k hk')
    have y6 := hin6.same (w' := w) (fun k hk' _ => hfx k hk')
    exact obE_loadRow rfl e5 x5 Try.underlying28 rfl (by kernel_rfl) (wanted_none rfl) rfl
  · refine ⟨⟨fun τ => stableE_det _, leans_not⟩, ?_⟩
    intro a w O hk
    have f34 := hk.fact 3 _ 34 rfl rfl rfl rfl
    have g34 := hk.owns 3 rfl rfl
    have e35 : a.eval (.tmp 35) = tmV pa ta := hk.fact 4 _ 35 rfl rfl rfl rfl
    have x5 := hk.world.still hx5 (fun ⟨_, h⟩ => h.elim And.right And.right)
    have x6 := hk.world.still hx6 (fun ⟨_, h⟩ => h.elim And.right And.right)
    have hfx : ∀ k, k < B → w.heap[k]? = w0.heap[k]? := fun k hk' => hk.fix k ((fun k hk' => est2_fix (Nat.lt_of_lt_of_le hk' hB) (fun e => e.elim) (fun e => e.elim)) k hk')
    have hsz := hk.world.size
    have y5 := hin5.same (w' := w) (fun k hk' _ => hfx k hk')
    have y6 := hin6.same (w' := w) (fun k hk' _ => hfx k hk')
    obtain ⟨q34, z34, h34⟩ := f34
    replace z34 : a.eval (.tmp 34) = _ := z34
    exact obE_callV #[tmV q34 (InstT (LiftT ta 0 1) tb), tmV pa ta] rfl rfl rfl rfl (by simp only [List.map_cons, List.map_nil]; rw [z34, e35]; try rfl) (wanted_none rfl) ((tSame_calls (InstT (LiftT ta 0 1) tb) ta q34 pa w (TmS.all h34) (TmIn.mono y5 (Nat.le_trans hB hsz))).mono fun e w' h => ⟨by rw [h.1, hs1], h.2⟩)
  · refine ⟨⟨fun τ => stableE_det _, leans_not⟩, ?_⟩
    intro a w O hk
    have e36 : a.eval (.tmp 36) = .bool true := hk.fact 5 _ 36 rfl rfl rfl rfl
    have x5 := hk.world.still hx5 (fun ⟨_, h⟩ => h.elim And.right And.right)
    have x6 := hk.world.still hx6 (fun ⟨_, h⟩ => h.elim And.right And.right)
    have hfx : ∀ k, k < B → w.heap[k]? = w0.heap[k]? := fun k hk' => hk.fix k ((fun k hk' => est2_fix (Nat.lt_of_lt_of_le hk' hB) (fun e => e.elim) (fun e => e.elim)) k hk')
    have hsz := hk.world.size
    have y5 := hin5.same (w' := w) (fun k hk' _ => hfx k hk')
    have y6 := hin6.same (w' := w) (fun k hk' _ => hfx k hk')
    exact obE_run (wanted_none rfl) (by unfold execOp; simp only []; rw [e36]; go_simp) rfl
  · refine ⟨⟨fun τ => stableE_det _, leans_not⟩, ?_⟩
    intro a w O hk
    have e37 : a.eval (.tmp 37) = .bool false := hk.fact 6 _ 37 rfl rfl rfl rfl
    exact toE (ob_move rfl e37 (wanted_none rfl) rfl)
  · refine ⟨⟨fun τ => stableE_det _, leans_not⟩, ?_⟩
    intro a w O hk
    have e5 : a.eval (.tmp 5) = .pointer (some ⟨ga, 0, none⟩) := (hk.init 5 (initialB_of_nw nw5)).trans hi5
    have e38 : a.eval (.tmp 38) = .bool false := hk.fact 7 _ 38 rfl rfl rfl rfl
    have x5 := hk.world.still hx5 (fun ⟨_, h⟩ => h.elim And.right And.right)
    have x6 := hk.world.still hx6 (fun ⟨_, h⟩ => h.elim And.right And.right)
    have hfx : ∀ k, k < B → w.heap[k]? = w0.heap[k]? := fun k hk' => hk.fix k ((fun k hk' => est2_fix (Nat.lt_of_lt_of_le hk' hB) (fun e => e.elim) (fun e => e.elim)) k hk')
    have hsz := hk.world.size
    have y5 := hin5.same (w' := w) (fun k hk' _ => hfx k hk')
    have y6 := hin6.same (w' := w) (fun k hk' _ => hfx k hk')
    exact obE_loadRow rfl e5 x5 Try.underlying28 rfl (by kernel_rfl) (wanted_of rfl rfl rfl e38) rfl
  · refine ⟨⟨fun τ => stableE_det _, leans_not⟩, ?_⟩
    intro a w O hk
    have e2 : a.eval (.tmp 2) = .int .i64 fr := (hk.init 2 (initialB_of_nw nw2)).trans hi2
    have e38 : a.eval (.tmp 38) = .bool false := hk.fact 7 _ 38 rfl rfl rfl rfl
    exact toE (ob_move rfl e2 (wanted_of rfl rfl rfl e38) rfl)
  · refine ⟨⟨fun τ => stableE_det _, leans_not⟩, ?_⟩
    intro a w O hk
    have e3 : a.eval (.tmp 3) = .int .i64 x := (hk.init 3 (initialB_of_nw nw3)).trans hi3
    have e38 : a.eval (.tmp 38) = .bool false := hk.fact 7 _ 38 rfl rfl rfl rfl
    exact toE (ob_move rfl e3 (wanted_of rfl rfl rfl e38) rfl)
  · refine ⟨⟨fun τ => stableE_tm (fun k hk' => est2_fix (Nat.lt_of_lt_of_le hk' hB) (fun e => e.elim) (fun e => e.elim)), leans_not⟩, ?_⟩
    intro a w O hk
    have e39 : a.eval (.tmp 39) = tmV pa ta := hk.fact 8 _ 39 rfl rfl rfl rfl
    have e40 : a.eval (.tmp 40) = .int .i64 fr := hk.fact 9 _ 40 rfl rfl rfl rfl
    have e41 : a.eval (.tmp 41) = .int .i64 x := hk.fact 10 _ 41 rfl rfl rfl rfl
    have e38 : a.eval (.tmp 38) = .bool false := hk.fact 7 _ 38 rfl rfl rfl rfl
    have x5 := hk.world.still hx5 (fun ⟨_, h⟩ => h.elim And.right And.right)
    have x6 := hk.world.still hx6 (fun ⟨_, h⟩ => h.elim And.right And.right)
    have hfx : ∀ k, k < B → w.heap[k]? = w0.heap[k]? := fun k hk' => hk.fix k ((fun k hk' => est2_fix (Nat.lt_of_lt_of_le hk' hB) (fun e => e.elim) (fun e => e.elim)) k hk')
    have hsz := hk.world.size
    have y5 := hin5.same (w' := w) (fun k hk' _ => hfx k hk')
    have y6 := hin6.same (w' := w) (fun k hk' _ => hfx k hk')
    exact obE_tmCall #[tmV pa ta, .int .i64 fr, .int .i64 x] rfl rfl rfl rfl (by simp only [List.map_cons, List.map_nil]; rw [e39, e40, e41]; try rfl) (wanted_of rfl rfl rfl e38) ((LiftS_calls (fun k => k < B) w.heap.size (fun k h => Nat.lt_of_lt_of_le h (Nat.le_trans hB hsz)) (fr) (x) ta pa w (Nat.le_refl _) (TmS.mono y5 fun k h _ => h)).mono fun e w' ⟨q9, h1, h2, h3⟩ => ⟨q9, h1, h2.mono fun k h _ => h.elim (fun h => .inl (.inl h)) .inr, h3⟩)
  · refine ⟨⟨fun τ => stableE_det _, leans_not⟩, ?_⟩
    intro a w O hk
    have e2 : a.eval (.tmp 2) = .int .i64 fr := (hk.init 2 (initialB_of_nw nw2)).trans hi2
    have e38 : a.eval (.tmp 38) = .bool false := hk.fact 7 _ 38 rfl rfl rfl rfl
    exact toE (ob_move rfl e2 (wanted_of rfl rfl rfl e38) rfl)
  · refine ⟨⟨fun τ => stableE_det _, leans_not⟩, ?_⟩
    intro a w O hk
    have e4 : a.eval (.tmp 4) = .int .i64 y := (hk.init 4 (initialB_of_nw nw4)).trans hi4
    have e38 : a.eval (.tmp 38) = .bool false := hk.fact 7 _ 38 rfl rfl rfl rfl
    exact toE (ob_move rfl e4 (wanted_of rfl rfl rfl e38) rfl)
  · refine ⟨⟨fun τ => stableE_tm (fun k hk' => est2_fix (Nat.lt_of_lt_of_le hk' hB) (fun e => e.elim) (fun e => e.elim)), leans_not⟩, ?_⟩
    intro a w O hk
    have f42 := hk.fact 11 _ 42 rfl rfl rfl rfl
    have g42 := hk.owns 11 rfl rfl
    have e43 : a.eval (.tmp 43) = .int .i64 fr := hk.fact 12 _ 43 rfl rfl rfl rfl
    have e44 : a.eval (.tmp 44) = .int .i64 y := hk.fact 13 _ 44 rfl rfl rfl rfl
    have e38 : a.eval (.tmp 38) = .bool false := hk.fact 7 _ 38 rfl rfl rfl rfl
    have x5 := hk.world.still hx5 (fun ⟨_, h⟩ => h.elim And.right And.right)
    have x6 := hk.world.still hx6 (fun ⟨_, h⟩ => h.elim And.right And.right)
    have hfx : ∀ k, k < B → w.heap[k]? = w0.heap[k]? := fun k hk' => hk.fix k ((fun k hk' => est2_fix (Nat.lt_of_lt_of_le hk' hB) (fun e => e.elim) (fun e => e.elim)) k hk')
    have hsz := hk.world.size
    have y5 := hin5.same (w' := w) (fun k hk' _ => hfx k hk')
    have y6 := hin6.same (w' := w) (fun k hk' _ => hfx k hk')
    obtain ⟨q42, z42, h42⟩ := f42
    replace z42 : a.eval (.tmp 42) = _ := z42
    exact obE_tmCall #[tmV q42 (LiftT ta fr x), .int .i64 fr, .int .i64 y] rfl rfl rfl rfl (by simp only [List.map_cons, List.map_nil]; rw [z42, e43, e44]; try rfl) (wanted_of rfl rfl rfl e38) ((LiftS_calls (fun k => k < B ∨ O 11 k) w.heap.size (fun k h => h.elim (fun h => Nat.lt_of_lt_of_le h (Nat.le_trans hB hsz)) fun h => (g42 k h).1) (fr) (y) (LiftT ta fr x) q42 w (Nat.le_refl _) (TmS.mono h42 fun k h _ => h.imp id id)).mono fun e w' ⟨q9, h1, h2, h3⟩ => ⟨q9, h1, h2.mono fun k h _ => h.elim (fun h => .inl (h.elim .inl fun h => .inr (.inl ⟨11, by simp [tk4_C], h⟩))) .inr, h3⟩)
  · refine ⟨⟨fun τ => stableE_det _, leans_not⟩, ?_⟩
    intro a w O hk
    have e5 : a.eval (.tmp 5) = .pointer (some ⟨ga, 0, none⟩) := (hk.init 5 (initialB_of_nw nw5)).trans hi5
    have e38 : a.eval (.tmp 38) = .bool false := hk.fact 7 _ 38 rfl rfl rfl rfl
    have x5 := hk.world.still hx5 (fun ⟨_, h⟩ => h.elim And.right And.right)
    have x6 := hk.world.still hx6 (fun ⟨_, h⟩ => h.elim And.right And.right)
    have hfx : ∀ k, k < B → w.heap[k]? = w0.heap[k]? := fun k hk' => hk.fix k ((fun k hk' => est2_fix (Nat.lt_of_lt_of_le hk' hB) (fun e => e.elim) (fun e => e.elim)) k hk')
    have hsz := hk.world.size
    have y5 := hin5.same (w' := w) (fun k hk' _ => hfx k hk')
    have y6 := hin6.same (w' := w) (fun k hk' _ => hfx k hk')
    exact obE_loadRow rfl e5 x5 Try.underlying28 rfl (by kernel_rfl) (wanted_of rfl rfl rfl e38) rfl
  · refine ⟨⟨fun τ => stableE_det _, leans_not⟩, ?_⟩
    intro a w O hk
    have e2 : a.eval (.tmp 2) = .int .i64 fr := (hk.init 2 (initialB_of_nw nw2)).trans hi2
    have e38 : a.eval (.tmp 38) = .bool false := hk.fact 7 _ 38 rfl rfl rfl rfl
    exact toE (ob_move rfl e2 (wanted_of rfl rfl rfl e38) rfl)
  · refine ⟨⟨fun τ => stableE_det _, leans_not⟩, ?_⟩
    intro a w O hk
    have e3 : a.eval (.tmp 3) = .int .i64 x := (hk.init 3 (initialB_of_nw nw3)).trans hi3
    have e38 : a.eval (.tmp 38) = .bool false := hk.fact 7 _ 38 rfl rfl rfl rfl
    exact toE (ob_move rfl e3 (wanted_of rfl rfl rfl e38) rfl)
  · refine ⟨⟨fun τ => stableE_det _, leans_not⟩, ?_⟩
    intro a w O hk
    have e4 : a.eval (.tmp 4) = .int .i64 y := (hk.init 4 (initialB_of_nw nw4)).trans hi4
    have e38 : a.eval (.tmp 38) = .bool false := hk.fact 7 _ 38 rfl rfl rfl rfl
    exact toE (ob_move rfl e4 (wanted_of rfl rfl rfl e38) rfl)
  · refine ⟨⟨fun τ => stableE_det _, leans_not⟩, ?_⟩
    intro a w O hk
    have e48 : a.eval (.tmp 48) = .int .i64 x := hk.fact 17 _ 48 rfl rfl rfl rfl
    have e49 : a.eval (.tmp 49) = .int .i64 y := hk.fact 18 _ 49 rfl rfl rfl rfl
    have e38 : a.eval (.tmp 38) = .bool false := hk.fact 7 _ 38 rfl rfl rfl rfl
    have x5 := hk.world.still hx5 (fun ⟨_, h⟩ => h.elim And.right And.right)
    have x6 := hk.world.still hx6 (fun ⟨_, h⟩ => h.elim And.right And.right)
    have hfx : ∀ k, k < B → w.heap[k]? = w0.heap[k]? := fun k hk' => hk.fix k ((fun k hk' => est2_fix (Nat.lt_of_lt_of_le hk' hB) (fun e => e.elim) (fun e => e.elim)) k hk')
    have hsz := hk.world.size
    have y5 := hin5.same (w' := w) (fun k hk' _ => hfx k hk')
    have y6 := hin6.same (w' := w) (fun k hk' _ => hfx k hk')
    have hw9 : IntKind.i64.wrap (x + y) = x + y := IntWalk.i64_in _ (by omega)
    exact obE_run (wanted_of rfl rfl rfl e38) (by unfold execOp; simp only []; rw [e48, e49]; go_simp) rfl
  · refine ⟨⟨fun τ => stableE_tm (fun k hk' => est2_fix (Nat.lt_of_lt_of_le hk' hB) (fun e => e.elim) (fun e => e.elim)), leans_not⟩, ?_⟩
    intro a w O hk
    have e46 : a.eval (.tmp 46) = tmV pa ta := hk.fact 15 _ 46 rfl rfl rfl rfl
    have e47 : a.eval (.tmp 47) = .int .i64 fr := hk.fact 16 _ 47 rfl rfl rfl rfl
    have e50 : a.eval (.tmp 50) = .int .i64 (x + y) := hk.fact 19 _ 50 rfl rfl rfl rfl
    have e38 : a.eval (.tmp 38) = .bool false := hk.fact 7 _ 38 rfl rfl rfl rfl
    have x5 := hk.world.still hx5 (fun ⟨_, h⟩ => h.elim And.right And.right)
    have x6 := hk.world.still hx6 (fun ⟨_, h⟩ => h.elim And.right And.right)
    have hfx : ∀ k, k < B → w.heap[k]? = w0.heap[k]? := fun k hk' => hk.fix k ((fun k hk' => est2_fix (Nat.lt_of_lt_of_le hk' hB) (fun e => e.elim) (fun e => e.elim)) k hk')
    have hsz := hk.world.size
    have y5 := hin5.same (w' := w) (fun k hk' _ => hfx k hk')
    have y6 := hin6.same (w' := w) (fun k hk' _ => hfx k hk')
    exact obE_tmCall #[tmV pa ta, .int .i64 fr, .int .i64 (x + y)] rfl rfl rfl rfl (by simp only [List.map_cons, List.map_nil]; rw [e46, e47, e50]; try rfl) (wanted_of rfl rfl rfl e38) ((LiftS_calls (fun k => k < B) w.heap.size (fun k h => Nat.lt_of_lt_of_le h (Nat.le_trans hB hsz)) (fr) (x + y) ta pa w (Nat.le_refl _) (TmS.mono y5 fun k h _ => h)).mono fun e w' ⟨q9, h1, h2, h3⟩ => ⟨q9, h1, h2.mono fun k h _ => h.elim (fun h => .inl (.inl h)) .inr, h3⟩)
  · refine ⟨⟨fun τ => stableE_det _, leans_not⟩, ?_⟩
    intro a w O hk
    have f45 := hk.fact 14 _ 45 rfl rfl rfl rfl
    have g45 := hk.owns 14 rfl rfl
    have f51 := hk.fact 20 _ 51 rfl rfl rfl rfl
    have g51 := hk.owns 20 rfl rfl
    have e38 : a.eval (.tmp 38) = .bool false := hk.fact 7 _ 38 rfl rfl rfl rfl
    have x5 := hk.world.still hx5 (fun ⟨_, h⟩ => h.elim And.right And.right)
    have x6 := hk.world.still hx6 (fun ⟨_, h⟩ => h.elim And.right And.right)
    have hfx : ∀ k, k < B → w.heap[k]? = w0.heap[k]? := fun k hk' => hk.fix k ((fun k hk' => est2_fix (Nat.lt_of_lt_of_le hk' hB) (fun e => e.elim) (fun e => e.elim)) k hk')
    have hsz := hk.world.size
    have y5 := hin5.same (w' := w) (fun k hk' _ => hfx k hk')
    have y6 := hin6.same (w' := w) (fun k hk' _ => hfx k hk')
    obtain ⟨q45, z45, h45⟩ := f45
    replace z45 : a.eval (.tmp 45) = _ := z45
    obtain ⟨q51, z51, h51⟩ := f51
    replace z51 : a.eval (.tmp 51) = _ := z51
    exact obE_callV #[tmV q45 (LiftT (LiftT ta fr x) fr y), tmV q51 (LiftT ta fr (x + y))] rfl rfl rfl rfl (by simp only [List.map_cons, List.map_nil]; rw [z45, z51]; try rfl) (wanted_of rfl rfl rfl e38) ((tSame_calls (LiftT (LiftT ta fr x) fr y) (LiftT ta fr (x + y)) q45 q51 w (TmS.all h45) (TmS.all h51)).mono fun e w' h => ⟨by rw [h.1, hs2], h.2⟩)
  · refine ⟨⟨fun τ => stableE_det _, leans_not⟩, ?_⟩
    intro a w O hk
    have e52 : a.eval (.tmp 52) = .bool true := hk.fact 21 _ 52 rfl rfl rfl rfl
    have e38 : a.eval (.tmp 38) = .bool false := hk.fact 7 _ 38 rfl rfl rfl rfl
    have x5 := hk.world.still hx5 (fun ⟨_, h⟩ => h.elim And.right And.right)
    have x6 := hk.world.still hx6 (fun ⟨_, h⟩ => h.elim And.right And.right)
    have hfx : ∀ k, k < B → w.heap[k]? = w0.heap[k]? := fun k hk' => hk.fix k ((fun k hk' => est2_fix (Nat.lt_of_lt_of_le hk' hB) (fun e => e.elim) (fun e => e.elim)) k hk')
    have hsz := hk.world.size
    have y5 := hin5.same (w' := w) (fun k hk' _ => hfx k hk')
    have y6 := hin6.same (w' := w) (fun k hk' _ => hfx k hk')
    exact obE_run (wanted_of rfl rfl rfl e38) (by unfold execOp; simp only []; rw [e52]; go_simp) rfl
  · refine ⟨⟨fun τ => stableE_det _, leans_not⟩, ?_⟩
    intro a w O hk
    have e38 : a.eval (.tmp 38) = .bool false := hk.fact 7 _ 38 rfl rfl rfl rfl
    have e53 : a.eval (.tmp 53) = .bool false := hk.fact 22 _ 53 rfl rfl rfl rfl
    exact toE (ob_pick rfl e38 e53 (wanted_none rfl) rfl)
  · refine ⟨⟨fun τ => stableE_det _, leans_not⟩, ?_⟩
    intro a w O hk
    have e54 : a.eval (.tmp 54) = .bool false := hk.fact 23 _ 54 rfl rfl rfl rfl
    exact toE (ob_move rfl e54 (wanted_none rfl) rfl)
  · refine ⟨⟨fun τ => stableE_det _, leans_not⟩, ?_⟩
    intro a w O hk
    have e5 : a.eval (.tmp 5) = .pointer (some ⟨ga, 0, none⟩) := (hk.init 5 (initialB_of_nw nw5)).trans hi5
    have e55 : a.eval (.tmp 55) = .bool false := hk.fact 24 _ 55 rfl rfl rfl rfl
    have x5 := hk.world.still hx5 (fun ⟨_, h⟩ => h.elim And.right And.right)
    have x6 := hk.world.still hx6 (fun ⟨_, h⟩ => h.elim And.right And.right)
    have hfx : ∀ k, k < B → w.heap[k]? = w0.heap[k]? := fun k hk' => hk.fix k ((fun k hk' => est2_fix (Nat.lt_of_lt_of_le hk' hB) (fun e => e.elim) (fun e => e.elim)) k hk')
    have hsz := hk.world.size
    have y5 := hin5.same (w' := w) (fun k hk' _ => hfx k hk')
    have y6 := hin6.same (w' := w) (fun k hk' _ => hfx k hk')
    exact obE_loadRow rfl e5 x5 Try.underlying28 rfl (by kernel_rfl) (wanted_of rfl rfl rfl e55) rfl
  · refine ⟨⟨fun τ => stableE_det _, leans_not⟩, ?_⟩
    intro a w O hk
    have e2 : a.eval (.tmp 2) = .int .i64 fr := (hk.init 2 (initialB_of_nw nw2)).trans hi2
    have e55 : a.eval (.tmp 55) = .bool false := hk.fact 24 _ 55 rfl rfl rfl rfl
    exact toE (ob_move rfl e2 (wanted_of rfl rfl rfl e55) rfl)
  · refine ⟨⟨fun τ => stableE_tm (fun k hk' => est2_fix (Nat.lt_of_lt_of_le hk' hB) (fun e => e.elim) (fun e => e.elim)), leans_not⟩, ?_⟩
    intro a w O hk
    have e56 : a.eval (.tmp 56) = tmV pa ta := hk.fact 25 _ 56 rfl rfl rfl rfl
    have e57 : a.eval (.tmp 57) = .int .i64 fr := hk.fact 26 _ 57 rfl rfl rfl rfl
    have e55 : a.eval (.tmp 55) = .bool false := hk.fact 24 _ 55 rfl rfl rfl rfl
    have x5 := hk.world.still hx5 (fun ⟨_, h⟩ => h.elim And.right And.right)
    have x6 := hk.world.still hx6 (fun ⟨_, h⟩ => h.elim And.right And.right)
    have hfx : ∀ k, k < B → w.heap[k]? = w0.heap[k]? := fun k hk' => hk.fix k ((fun k hk' => est2_fix (Nat.lt_of_lt_of_le hk' hB) (fun e => e.elim) (fun e => e.elim)) k hk')
    have hsz := hk.world.size
    have y5 := hin5.same (w' := w) (fun k hk' _ => hfx k hk')
    have y6 := hin6.same (w' := w) (fun k hk' _ => hfx k hk')
    exact obE_tmCall #[tmV pa ta, .int .i64 fr, .int .i64 0] rfl rfl rfl rfl (by simp only [List.map_cons, List.map_nil]; rw [e56, e57]; try rfl) (wanted_of rfl rfl rfl e55) ((LiftS_calls (fun k => k < B) w.heap.size (fun k h => Nat.lt_of_lt_of_le h (Nat.le_trans hB hsz)) (fr) (0) ta pa w (Nat.le_refl _) (TmS.mono y5 fun k h _ => h)).mono fun e w' ⟨q9, h1, h2, h3⟩ => ⟨q9, h1, h2.mono fun k h _ => h.elim (fun h => .inl (.inl h)) .inr, h3⟩)
  · refine ⟨⟨fun τ => stableE_det _, leans_not⟩, ?_⟩
    intro a w O hk
    have e5 : a.eval (.tmp 5) = .pointer (some ⟨ga, 0, none⟩) := (hk.init 5 (initialB_of_nw nw5)).trans hi5
    have e55 : a.eval (.tmp 55) = .bool false := hk.fact 24 _ 55 rfl rfl rfl rfl
    have x5 := hk.world.still hx5 (fun ⟨_, h⟩ => h.elim And.right And.right)
    have x6 := hk.world.still hx6 (fun ⟨_, h⟩ => h.elim And.right And.right)
    have hfx : ∀ k, k < B → w.heap[k]? = w0.heap[k]? := fun k hk' => hk.fix k ((fun k hk' => est2_fix (Nat.lt_of_lt_of_le hk' hB) (fun e => e.elim) (fun e => e.elim)) k hk')
    have hsz := hk.world.size
    have y5 := hin5.same (w' := w) (fun k hk' _ => hfx k hk')
    have y6 := hin6.same (w' := w) (fun k hk' _ => hfx k hk')
    exact obE_loadRow rfl e5 x5 Try.underlying28 rfl (by kernel_rfl) (wanted_of rfl rfl rfl e55) rfl
  · refine ⟨⟨fun τ => stableE_det _, leans_not⟩, ?_⟩
    intro a w O hk
    have f58 := hk.fact 27 _ 58 rfl rfl rfl rfl
    have g58 := hk.owns 27 rfl rfl
    have e59 : a.eval (.tmp 59) = tmV pa ta := hk.fact 28 _ 59 rfl rfl rfl rfl
    have e55 : a.eval (.tmp 55) = .bool false := hk.fact 24 _ 55 rfl rfl rfl rfl
    have x5 := hk.world.still hx5 (fun ⟨_, h⟩ => h.elim And.right And.right)
    have x6 := hk.world.still hx6 (fun ⟨_, h⟩ => h.elim And.right And.right)
    have hfx : ∀ k, k < B → w.heap[k]? = w0.heap[k]? := fun k hk' => hk.fix k ((fun k hk' => est2_fix (Nat.lt_of_lt_of_le hk' hB) (fun e => e.elim) (fun e => e.elim)) k hk')
    have hsz := hk.world.size
    have y5 := hin5.same (w' := w) (fun k hk' _ => hfx k hk')
    have y6 := hin6.same (w' := w) (fun k hk' _ => hfx k hk')
    obtain ⟨q58, z58, h58⟩ := f58
    replace z58 : a.eval (.tmp 58) = _ := z58
    exact obE_callV #[tmV q58 (LiftT ta fr 0), tmV pa ta] rfl rfl rfl rfl (by simp only [List.map_cons, List.map_nil]; rw [z58, e59]; try rfl) (wanted_of rfl rfl rfl e55) ((tSame_calls (LiftT ta fr 0) ta q58 pa w (TmS.all h58) (TmIn.mono y5 (Nat.le_trans hB hsz))).mono fun e w' h => ⟨by rw [h.1, hs3], h.2⟩)
  · refine ⟨⟨fun τ => stableE_det _, leans_not⟩, ?_⟩
    intro a w O hk
    have e60 : a.eval (.tmp 60) = .bool true := hk.fact 29 _ 60 rfl rfl rfl rfl
    have e55 : a.eval (.tmp 55) = .bool false := hk.fact 24 _ 55 rfl rfl rfl rfl
    have x5 := hk.world.still hx5 (fun ⟨_, h⟩ => h.elim And.right And.right)
    have x6 := hk.world.still hx6 (fun ⟨_, h⟩ => h.elim And.right And.right)
    have hfx : ∀ k, k < B → w.heap[k]? = w0.heap[k]? := fun k hk' => hk.fix k ((fun k hk' => est2_fix (Nat.lt_of_lt_of_le hk' hB) (fun e => e.elim) (fun e => e.elim)) k hk')
    have hsz := hk.world.size
    have y5 := hin5.same (w' := w) (fun k hk' _ => hfx k hk')
    have y6 := hin6.same (w' := w) (fun k hk' _ => hfx k hk')
    exact obE_run (wanted_of rfl rfl rfl e55) (by unfold execOp; simp only []; rw [e60]; go_simp) rfl
  · refine ⟨⟨fun τ => stableE_det _, leans_not⟩, ?_⟩
    intro a w O hk
    have e55 : a.eval (.tmp 55) = .bool false := hk.fact 24 _ 55 rfl rfl rfl rfl
    have e61 : a.eval (.tmp 61) = .bool false := hk.fact 30 _ 61 rfl rfl rfl rfl
    exact toE (ob_pick rfl e55 e61 (wanted_none rfl) rfl)
set_option maxRecDepth 100000 in
set_option maxHeartbeats 8000000 in
theorem tk4_region {Q : Exit → Act → World → Prop} {id : Nat} (w0 : World) (B : Nat) (ga : Nat) (pa : Pl) (ta : Tm) (gb : Nat) (pb : Pl) (tb : Tm) (fr x y : Int) {s0 s1 s7 s8 s9 s10 s11 s12 s13 s14 s15 s16 s17 s18 s19 s20 s21 s22 s23 s24 s25 s26 s27 s28 s29 s30 s31 s32 s33 s34 s35 s36 s37 s38 s39 s40 s41 s42 s43 s44 s45 s46 s47 s48 s49 s50 s51 s52 s53 s54 s55 s56 s57 s58 s59 s60 s61 s62 s63 s64 s65 s66 s67 s68 s69 s70 s71 s72 s73 s74 s75 s76 s77 s78 s79 s80 s81 s82 s83 s84 s85 s86 s87 s88 s89 s90 s91 s92 s93 s94 s95 s96 s97 s98 s99 s100 s101 s102 s103 s104 s105 : Value} (hB : B ≤ w0.heap.size) (hx5 : w0.heap[ga]? = some (tmO pa ta)) (hin5 : TmIn w0 B pa ta) (hx6 : w0.heap[gb]? = some (tmO pb tb)) (hin6 : TmIn w0 B pb tb) (hr : 0 ≤ x ∧ x ≤ 1000 ∧ 0 ≤ y ∧ y ≤ 1000) (hs1 : SameT (InstT (LiftT ta 0 1) tb) ta = true) (hs2 : SameT (LiftT (LiftT ta fr x) fr y) (LiftT ta fr (x + y)) = true) (hs3 : SameT (LiftT ta fr 0) ta = true)
    (hend : ∀ (w' : World) (u32 : Value) (u34 : Value) (u42 : Value) (u45 : Value) (u51 : Value) (u58 : Value) (O3 : Nat → Prop) (O14 : Nat → Prop) (O20 : Nat → Prop) (O27 : Nat → Prop), Chg (fun k => False ∨ False) w0 w' → (TmO (fun k => k < B) (InstT (LiftT ta 0 1) tb) u34 w' O3) → (∀ k, O3 k → k < w'.heap.size ∧ ¬ Fix w0 (est2 0 0 (fun _ => False) (fun _ => False)) k) → (TmO (fun k => k < B) (LiftT (LiftT ta fr x) fr y) u45 w' O14) → (∀ k, O14 k → k < w'.heap.size ∧ ¬ Fix w0 (est2 0 0 (fun _ => False) (fun _ => False)) k) → (TmO (fun k => k < B) (LiftT ta fr (x + y)) u51 w' O20) → (∀ k, O20 k → k < w'.heap.size ∧ ¬ Fix w0 (est2 0 0 (fun _ => False) (fun _ => False)) k) → (TmO (fun k => k < B) (LiftT ta fr 0) u58 w' O27) → (∀ k, O27 k → k < w'.heap.size ∧ ¬ Fix w0 (est2 0 0 (fun _ => False) (fun _ => False)) k) → Q .normal { tmps := (s0 :: s1 :: (.int .i64 fr) :: (.int .i64 x) :: (.int .i64 y) :: (.pointer (some ⟨ga, 0, none⟩)) :: (.pointer (some ⟨gb, 0, none⟩)) :: s7 :: s8 :: s9 :: s10 :: s11 :: s12 :: s13 :: s14 :: s15 :: s16 :: s17 :: s18 :: s19 :: s20 :: s21 :: s22 :: s23 :: s24 :: s25 :: s26 :: s27 :: s28 :: s29 :: s30 :: (tmV pa ta) :: u32 :: (tmV pb tb) :: u34 :: (tmV pa ta) :: (.bool true) :: (.bool false) :: (.bool false) :: (tmV pa ta) :: (.int .i64 fr) :: (.int .i64 x) :: u42 :: (.int .i64 fr) :: (.int .i64 y) :: u45 :: (tmV pa ta) :: (.int .i64 fr) :: (.int .i64 x) :: (.int .i64 y) :: (.int .i64 (x + y)) :: u51 :: (.bool true) :: (.bool false) :: (.bool false) :: (.bool false) :: (tmV pa ta) :: (.int .i64 fr) :: u58 :: (tmV pa ta) :: (.bool true) :: (.bool false) :: (.bool false) :: s63 :: s64 :: s65 :: s66 :: s67 :: s68 :: s69 :: s70 :: s71 :: s72 :: s73 :: s74 :: s75 :: s76 :: s77 :: s78 :: s79 :: s80 :: s81 :: s82 :: s83 :: s84 :: s85 :: s86 :: s87 :: s88 :: s89 :: s90 :: s91 :: s92 :: s93 :: s94 :: s95 :: s96 :: s97 :: s98 :: s99 :: s100 :: s101 :: s102 :: s103 :: s104 :: s105 :: [] : List Value).toArray, defers := [] } w') :
    (Code.region id tk4_ops.toArray true).wp Try.prog Q { tmps := (s0 :: s1 :: (.int .i64 fr) :: (.int .i64 x) :: (.int .i64 y) :: (.pointer (some ⟨ga, 0, none⟩)) :: (.pointer (some ⟨gb, 0, none⟩)) :: s7 :: s8 :: s9 :: s10 :: s11 :: s12 :: s13 :: s14 :: s15 :: s16 :: s17 :: s18 :: s19 :: s20 :: s21 :: s22 :: s23 :: s24 :: s25 :: s26 :: s27 :: s28 :: s29 :: s30 :: s31 :: s32 :: s33 :: s34 :: s35 :: s36 :: s37 :: s38 :: s39 :: s40 :: s41 :: s42 :: s43 :: s44 :: s45 :: s46 :: s47 :: s48 :: s49 :: s50 :: s51 :: s52 :: s53 :: s54 :: s55 :: s56 :: s57 :: s58 :: s59 :: s60 :: s61 :: s62 :: s63 :: s64 :: s65 :: s66 :: s67 :: s68 :: s69 :: s70 :: s71 :: s72 :: s73 :: s74 :: s75 :: s76 :: s77 :: s78 :: s79 :: s80 :: s81 :: s82 :: s83 :: s84 :: s85 :: s86 :: s87 :: s88 :: s89 :: s90 :: s91 :: s92 :: s93 :: s94 :: s95 :: s96 :: s97 :: s98 :: s99 :: s100 :: s101 :: s102 :: s103 :: s104 :: s105 :: [] : List Value).toArray, defers := [] } w0 := by
  refine wp_region_est (by kernel_rfl) (est2 0 0 (fun _ => False) (fun _ => False)) tk4_C (tk4_F w0 B ga pa ta gb pb tb fr x y) (est2_dis (fun _ h _ => h)) (est2_range (fun _ h => h.elim) (fun _ h => h.elim)) (by rfl) (by kernel_rfl) (tk4_obs w0.drew B ga pa ta gb pb tb fr x y hB hx5 (TmS.same hin5 (fun _ _ _ => rfl)) hx6 (TmS.same hin6 (fun _ _ _ => rfl)) hr hs1 hs2 hs3 _ _ rfl rfl rfl rfl rfl) ?_
  intro a w' O hd hs hb hf hf2 ha hsame
  have hl := slots_eq (ops := tk4_ops.toArray) [(31, tmV pa ta), (32, a.tmps.getD 32 undef), (33, tmV pb tb), (34, a.tmps.getD 34 undef), (35, tmV pa ta), (36, .bool true), (37, .bool false), (38, .bool false), (39, tmV pa ta), (40, .int .i64 fr), (41, .int .i64 x), (42, a.tmps.getD 42 undef), (43, .int .i64 fr), (44, .int .i64 y), (45, a.tmps.getD 45 undef), (46, tmV pa ta), (47, .int .i64 fr), (48, .int .i64 x), (49, .int .i64 y), (50, .int .i64 (x + y)), (51, a.tmps.getD 51 undef), (52, .bool true), (53, .bool false), (54, .bool false), (55, .bool false), (56, tmV pa ta), (57, .int .i64 fr), (58, a.tmps.getD 58 undef), (59, tmV pa ta), (60, .bool true), (61, .bool false), (62, .bool false)] (show a.tmps.size = 106 from hs) (fun i h => hsame i h) ⟨(hf 0 _ 31 rfl rfl (by decide)).1, rfl, (hf 2 _ 33 rfl rfl (by decide)).1, rfl, (hf 4 _ 35 rfl rfl (by decide)).1, (hf 5 _ 36 rfl rfl (by decide)).1, (hf 6 _ 37 rfl rfl (by decide)).1, (hf 7 _ 38 rfl rfl (by decide)).1, (hf 8 _ 39 rfl rfl (by decide)).1, (hf 9 _ 40 rfl rfl (by decide)).1, (hf 10 _ 41 rfl rfl (by decide)).1, rfl, (hf 12 _ 43 rfl rfl (by decide)).1, (hf 13 _ 44 rfl rfl (by decide)).1, rfl, (hf 15 _ 46 rfl rfl (by decide)).1, (hf 16 _ 47 rfl rfl (by decide)).1, (hf 17 _ 48 rfl rfl (by decide)).1, (hf 18 _ 49 rfl rfl (by decide)).1, (hf 19 _ 50 rfl rfl (by decide)).1, rfl, (hf 21 _ 52 rfl rfl (by decide)).1, (hf 22 _ 53 rfl rfl (by decide)).1, (hf 23 _ 54 rfl rfl (by decide)).1, (hf 24 _ 55 rfl rfl (by decide)).1, (hf 25 _ 56 rfl rfl (by decide)).1, (hf 26 _ 57 rfl rfl (by decide)).1, rfl, (hf 28 _ 59 rfl rfl (by decide)).1, (hf 29 _ 60 rfl rfl (by decide)).1, (hf 30 _ 61 rfl rfl (by decide)).1, (hf 31 _ 62 rfl rfl (by decide)).1, trivial⟩ (by kernel_rfl)
  obtain ⟨tmps, defers⟩ := a
  obtain rfl : defers = [] := hd
  have hl' : tmps = _ := hl
  rw [hl']
  have hb' := est2_chg hb
  refine Eq.mp ?_ (hend w' (tmps.getD 32 undef) (tmps.getD 34 undef) (tmps.getD 42 undef) (tmps.getD 45 undef) (tmps.getD 51 undef) (tmps.getD 58 undef) (O 3) (O 14) (O 20) (O 27) ⟨hb'.os, hb'.tape, hb'.output, hb'.size, hb'.block⟩ (hf 3 _ 34 rfl rfl (by decide)).1 (hf 3 _ 34 rfl rfl (by decide)).2 (hf 14 _ 45 rfl rfl (by decide)).1 (hf 14 _ 45 rfl rfl (by decide)).2 (hf 20 _ 51 rfl rfl (by decide)).1 (hf 20 _ 51 rfl rfl (by decide)).2 (hf 27 _ 58 rfl rfl (by decide)).1 (hf 27 _ 58 rfl rfl (by decide)).2)
  kernel_rfl

def tk8b_ops : List Oper := [
  { dst := some 68, op := Go.Op.load 28 (Go.Operand.tmp 5), type := 28, pos := "law.go:153", after := #[], guard := none },
  { dst := some 69, op := Go.Op.call { callee := Go.Callee.value (Go.Operand.func 20), args := #[Go.Operand.tmp 68], argTypes := #[28] }, type := 3, pos := "law.go:153", after := #[{ on := 0, ground := Go.Ground.data }], guard := none },
  { dst := some 70, op := Go.Op.move (Go.Operand.tmp 12), type := 3, pos := "law.go:153", after := #[], guard := none },
  { dst := some 71, op := Go.Op.load 28 (Go.Operand.tmp 6), type := 28, pos := "law.go:153", after := #[], guard := none },
  { dst := some 72, op := Go.Op.call { callee := Go.Callee.value (Go.Operand.func 20), args := #[Go.Operand.tmp 71], argTypes := #[28] }, type := 3, pos := "law.go:153", after := #[{ on := 3, ground := Go.Ground.data }, { on := 1, ground := Go.Ground.chain }], guard := none },
  { dst := some 73, op := Go.Op.binOp Go.BinOp.sub 3 (Go.Operand.tmp 72) (Go.Operand.const (Go.Value.int Go.IntKind.i64 1)) 3, type := 3, pos := "law.go:153", after := #[{ on := 4, ground := Go.Ground.data }], guard := none },
  { dst := some 74, op := Go.Op.binOp Go.BinOp.mul 3 (Go.Operand.tmp 70) (Go.Operand.tmp 73) 3, type := 3, pos := "law.go:153", after := #[{ on := 2, ground := Go.Ground.data }, { on := 5, ground := Go.Ground.data }], guard := none },
  { dst := some 75, op := Go.Op.binOp Go.BinOp.add 3 (Go.Operand.tmp 69) (Go.Operand.tmp 74) 3, type := 3, pos := "law.go:153", after := #[{ on := 1, ground := Go.Ground.data }, { on := 6, ground := Go.Ground.data }], guard := none },
  { dst := some 76, op := Go.Op.binOp Go.BinOp.gtr 3 (Go.Operand.tmp 75) (Go.Operand.const (Go.Value.int Go.IntKind.i64 20000)) 3, type := 4, pos := "law.go:153", after := #[{ on := 7, ground := Go.Ground.data }], guard := none }]
def tk8b_F (w0 : World) (B : Nat) (ga : Nat) (pa : Pl) (ta : Tm) (gb : Nat) (pb : Pl) (tb : Tm) (n sa sb : Int) (big : Bool) : Nat → (Nat → Value) → Value → World → (Nat → Prop) → Prop := fun rix => match rix with
  | 0 => fun _ v _ _ => v = tmV pa ta
  | 1 => fun _ v _ _ => v = .int .i64 sa
  | 2 => fun _ v _ _ => v = .int .i64 n
  | 3 => fun _ v _ _ => v = tmV pb tb
  | 4 => fun _ v _ _ => v = .int .i64 sb
  | 5 => fun _ v _ _ => v = .int .i64 (sb - 1)
  | 6 => fun _ v _ _ => v = .int .i64 (n * (sb - 1))
  | 7 => fun _ v _ _ => v = .int .i64 (sa + n * (sb - 1))
  | 8 => fun _ v _ _ => v = .bool big
  | _ => fun _ _ _ _ => True
def tk8b_C : Nat → List Nat := fun rix => match rix with
  | _ => []
theorem tk8b_nw5 : nwB tk8b_ops.toArray 5 = true := by kernel_rfl
theorem tk8b_nw6 : nwB tk8b_ops.toArray 6 = true := by kernel_rfl
theorem tk8b_nw12 : nwB tk8b_ops.toArray 12 = true := by kernel_rfl
set_option maxRecDepth 100000 in
set_option maxHeartbeats 8000000 in
theorem tk8b_obs (w0 : World) (B : Nat) (ga : Nat) (pa : Pl) (ta : Tm) (gb : Nat) (pb : Pl) (tb : Tm) (n sa sb : Int) (big : Bool) (hB : B ≤ w0.heap.size) (hx5 : w0.heap[ga]? = some (tmO pa ta)) (hin5 : TmIn w0 B pa ta) (hx6 : w0.heap[gb]? = some (tmO pb tb)) (hin6 : TmIn w0 B pb tb) (ha : (measP ta).1 = sa) (hb : (measP tb).1 = sb) (hr : 0 ≤ sa ∧ sa ≤ 400 ∧ 0 ≤ sb ∧ sb ≤ 400) (hmr : -9223372036854775808 ≤ n * (sb - 1) ∧ n * (sb - 1) ≤ 9223372036854775807) (hm2 : -1000000 ≤ n * (sb - 1) ∧ n * (sb - 1) ≤ 1000000) (hbg : decide (20000 < sa + n * (sb - 1)) = big) (Q : Exit → Act → World → Prop) (a0 : Act) (hi5 : a0.tmps.getD 5 undef = .pointer (some ⟨ga, 0, none⟩)) (hi6 : a0.tmps.getD 6 undef = .pointer (some ⟨gb, 0, none⟩)) (hi12 : a0.tmps.getD 12 undef = .int .i64 n) :
    ObsE Try.prog tk8b_ops.toArray Q (est2 0 0 (fun _ => False) (fun _ => False)) tk8b_C (tk8b_F w0 B ga pa ta gb pb tb n sa sb big) a0 w0 tk8b_ops.toArray.toList 0 := by
  have nw5 := tk8b_nw5
  have nw6 := tk8b_nw6
  have nw12 := tk8b_nw12
  refine ⟨?_, ?_, ?_, ?_, ?_, ?_, ?_, ?_, ?_, trivial⟩
  · refine ⟨⟨fun τ => stableE_det _, leans_not⟩, ?_⟩
    intro a w O hk
    have e5 : a.eval (.tmp 5) = .pointer (some ⟨ga, 0, none⟩) := (hk.init 5 (initialB_of_nw nw5)).trans hi5
    have x5 := hk.world.still hx5 (fun ⟨_, h⟩ => h.elim And.right And.right)
    have x6 := hk.world.still hx6 (fun ⟨_, h⟩ => h.elim And.right And.right)
    have hfx : ∀ k, k < B → w.heap[k]? = w0.heap[k]? := fun k hk' => hk.fix k ((fun k hk' => est2_fix (Nat.lt_of_lt_of_le hk' hB) (fun e => e.elim) (fun e => e.elim)) k hk')
    have hsz := hk.world.size
    have y5 := hin5.same (w' := w) (fun k hk' _ => hfx k hk')
    have y6 := hin6.same (w' := w) (fun k hk' _ => hfx k hk')
    exact obE_loadRow rfl e5 x5 Try.underlying28 rfl (by kernel_rfl) (wanted_none rfl) rfl
  · refine ⟨⟨fun τ => stableE_det _, leans_not⟩, ?_⟩
    intro a w O hk
    have e68 : a.eval (.tmp 68) = tmV pa ta := hk.fact 0 _ 68 rfl rfl rfl rfl
    have x5 := hk.world.still hx5 (fun ⟨_, h⟩ => h.elim And.right And.right)
    have x6 := hk.world.still hx6 (fun ⟨_, h⟩ => h.elim And.right And.right)
    have hfx : ∀ k, k < B → w.heap[k]? = w0.heap[k]? := fun k hk' => hk.fix k ((fun k hk' => est2_fix (Nat.lt_of_lt_of_le hk' hB) (fun e => e.elim) (fun e => e.elim)) k hk')
    have hsz := hk.world.size
    have y5 := hin5.same (w' := w) (fun k hk' _ => hfx k hk')
    have y6 := hin6.same (w' := w) (fun k hk' _ => hfx k hk')
    exact obE_callV #[tmV pa ta] rfl rfl rfl rfl (by simp only [List.map_cons, List.map_nil]; rw [e68]; try rfl) (wanted_none rfl) ((size_calls ta pa w (TmIn.mono y5 (Nat.le_trans hB hsz))).mono fun e w' h => ⟨by rw [h.1, ha], h.2⟩)
  · refine ⟨⟨fun τ => stableE_det _, leans_not⟩, ?_⟩
    intro a w O hk
    have e12 : a.eval (.tmp 12) = .int .i64 n := (hk.init 12 (initialB_of_nw nw12)).trans hi12
    exact toE (ob_move rfl e12 (wanted_none rfl) rfl)
  · refine ⟨⟨fun τ => stableE_det _, leans_not⟩, ?_⟩
    intro a w O hk
    have e6 : a.eval (.tmp 6) = .pointer (some ⟨gb, 0, none⟩) := (hk.init 6 (initialB_of_nw nw6)).trans hi6
    have x5 := hk.world.still hx5 (fun ⟨_, h⟩ => h.elim And.right And.right)
    have x6 := hk.world.still hx6 (fun ⟨_, h⟩ => h.elim And.right And.right)
    have hfx : ∀ k, k < B → w.heap[k]? = w0.heap[k]? := fun k hk' => hk.fix k ((fun k hk' => est2_fix (Nat.lt_of_lt_of_le hk' hB) (fun e => e.elim) (fun e => e.elim)) k hk')
    have hsz := hk.world.size
    have y5 := hin5.same (w' := w) (fun k hk' _ => hfx k hk')
    have y6 := hin6.same (w' := w) (fun k hk' _ => hfx k hk')
    exact obE_loadRow rfl e6 x6 Try.underlying28 rfl (by kernel_rfl) (wanted_none rfl) rfl
  · refine ⟨⟨fun τ => stableE_det _, leans_not⟩, ?_⟩
    intro a w O hk
    have e71 : a.eval (.tmp 71) = tmV pb tb := hk.fact 3 _ 71 rfl rfl rfl rfl
    have x5 := hk.world.still hx5 (fun ⟨_, h⟩ => h.elim And.right And.right)
    have x6 := hk.world.still hx6 (fun ⟨_, h⟩ => h.elim And.right And.right)
    have hfx : ∀ k, k < B → w.heap[k]? = w0.heap[k]? := fun k hk' => hk.fix k ((fun k hk' => est2_fix (Nat.lt_of_lt_of_le hk' hB) (fun e => e.elim) (fun e => e.elim)) k hk')
    have hsz := hk.world.size
    have y5 := hin5.same (w' := w) (fun k hk' _ => hfx k hk')
    have y6 := hin6.same (w' := w) (fun k hk' _ => hfx k hk')
    exact obE_callV #[tmV pb tb] rfl rfl rfl rfl (by simp only [List.map_cons, List.map_nil]; rw [e71]; try rfl) (wanted_none rfl) ((size_calls tb pb w (TmIn.mono y6 (Nat.le_trans hB hsz))).mono fun e w' h => ⟨by rw [h.1, hb], h.2⟩)
  · refine ⟨⟨fun τ => stableE_det _, leans_not⟩, ?_⟩
    intro a w O hk
    have e72 : a.eval (.tmp 72) = .int .i64 sb := hk.fact 4 _ 72 rfl rfl rfl rfl
    have x5 := hk.world.still hx5 (fun ⟨_, h⟩ => h.elim And.right And.right)
    have x6 := hk.world.still hx6 (fun ⟨_, h⟩ => h.elim And.right And.right)
    have hfx : ∀ k, k < B → w.heap[k]? = w0.heap[k]? := fun k hk' => hk.fix k ((fun k hk' => est2_fix (Nat.lt_of_lt_of_le hk' hB) (fun e => e.elim) (fun e => e.elim)) k hk')
    have hsz := hk.world.size
    have y5 := hin5.same (w' := w) (fun k hk' _ => hfx k hk')
    have y6 := hin6.same (w' := w) (fun k hk' _ => hfx k hk')
    have hw9 : IntKind.i64.wrap (sb - 1) = sb - 1 := IntWalk.i64_in _ (by omega)
    exact obE_run (wanted_none rfl) (by unfold execOp; simp only []; rw [e72]; go_simp) rfl
  · refine ⟨⟨fun τ => stableE_det _, leans_not⟩, ?_⟩
    intro a w O hk
    have e70 : a.eval (.tmp 70) = .int .i64 n := hk.fact 2 _ 70 rfl rfl rfl rfl
    have e73 : a.eval (.tmp 73) = .int .i64 (sb - 1) := hk.fact 5 _ 73 rfl rfl rfl rfl
    have x5 := hk.world.still hx5 (fun ⟨_, h⟩ => h.elim And.right And.right)
    have x6 := hk.world.still hx6 (fun ⟨_, h⟩ => h.elim And.right And.right)
    have hfx : ∀ k, k < B → w.heap[k]? = w0.heap[k]? := fun k hk' => hk.fix k ((fun k hk' => est2_fix (Nat.lt_of_lt_of_le hk' hB) (fun e => e.elim) (fun e => e.elim)) k hk')
    have hsz := hk.world.size
    have y5 := hin5.same (w' := w) (fun k hk' _ => hfx k hk')
    have y6 := hin6.same (w' := w) (fun k hk' _ => hfx k hk')
    have hw9 : IntKind.i64.wrap (n * (sb - 1)) = n * (sb - 1) := IntWalk.i64_in _ hmr
    exact obE_run (wanted_none rfl) (by unfold execOp; simp only []; rw [e70, e73]; go_simp) rfl
  · refine ⟨⟨fun τ => stableE_det _, leans_not⟩, ?_⟩
    intro a w O hk
    have e69 : a.eval (.tmp 69) = .int .i64 sa := hk.fact 1 _ 69 rfl rfl rfl rfl
    have e74 : a.eval (.tmp 74) = .int .i64 (n * (sb - 1)) := hk.fact 6 _ 74 rfl rfl rfl rfl
    have x5 := hk.world.still hx5 (fun ⟨_, h⟩ => h.elim And.right And.right)
    have x6 := hk.world.still hx6 (fun ⟨_, h⟩ => h.elim And.right And.right)
    have hfx : ∀ k, k < B → w.heap[k]? = w0.heap[k]? := fun k hk' => hk.fix k ((fun k hk' => est2_fix (Nat.lt_of_lt_of_le hk' hB) (fun e => e.elim) (fun e => e.elim)) k hk')
    have hsz := hk.world.size
    have y5 := hin5.same (w' := w) (fun k hk' _ => hfx k hk')
    have y6 := hin6.same (w' := w) (fun k hk' _ => hfx k hk')
    have hw9 : IntKind.i64.wrap (sa + n * (sb - 1)) = sa + n * (sb - 1) := IntWalk.i64_in _ (by omega)
    exact obE_run (wanted_none rfl) (by unfold execOp; simp only []; rw [e69, e74]; go_simp) rfl
  · refine ⟨⟨fun τ => stableE_det _, leans_not⟩, ?_⟩
    intro a w O hk
    have e75 : a.eval (.tmp 75) = .int .i64 (sa + n * (sb - 1)) := hk.fact 7 _ 75 rfl rfl rfl rfl
    have x5 := hk.world.still hx5 (fun ⟨_, h⟩ => h.elim And.right And.right)
    have x6 := hk.world.still hx6 (fun ⟨_, h⟩ => h.elim And.right And.right)
    have hfx : ∀ k, k < B → w.heap[k]? = w0.heap[k]? := fun k hk' => hk.fix k ((fun k hk' => est2_fix (Nat.lt_of_lt_of_le hk' hB) (fun e => e.elim) (fun e => e.elim)) k hk')
    have hsz := hk.world.size
    have y5 := hin5.same (w' := w) (fun k hk' _ => hfx k hk')
    have y6 := hin6.same (w' := w) (fun k hk' _ => hfx k hk')
    exact obE_run (wanted_none rfl) (by unfold execOp; simp only []; rw [e75, ← hbg]; go_simp) rfl
set_option maxRecDepth 100000 in
set_option maxHeartbeats 8000000 in
theorem tk8b_region {Q : Exit → Act → World → Prop} {id : Nat} (w0 : World) (B : Nat) (ga : Nat) (pa : Pl) (ta : Tm) (gb : Nat) (pb : Pl) (tb : Tm) (n sa sb : Int) (big : Bool) {s0 s1 s2 s3 s4 s7 s8 s9 s10 s11 s13 s14 s15 s16 s17 s18 s19 s20 s21 s22 s23 s24 s25 s26 s27 s28 s29 s30 s31 s32 s33 s34 s35 s36 s37 s38 s39 s40 s41 s42 s43 s44 s45 s46 s47 s48 s49 s50 s51 s52 s53 s54 s55 s56 s57 s58 s59 s60 s61 s62 s63 s64 s65 s66 s67 s68 s69 s70 s71 s72 s73 s74 s75 s76 s77 s78 s79 s80 s81 s82 s83 s84 s85 s86 s87 s88 s89 s90 s91 s92 s93 s94 s95 s96 s97 s98 s99 s100 s101 s102 s103 s104 s105 : Value} (hB : B ≤ w0.heap.size) (hx5 : w0.heap[ga]? = some (tmO pa ta)) (hin5 : TmIn w0 B pa ta) (hx6 : w0.heap[gb]? = some (tmO pb tb)) (hin6 : TmIn w0 B pb tb) (ha : (measP ta).1 = sa) (hb : (measP tb).1 = sb) (hr : 0 ≤ sa ∧ sa ≤ 400 ∧ 0 ≤ sb ∧ sb ≤ 400) (hmr : -9223372036854775808 ≤ n * (sb - 1) ∧ n * (sb - 1) ≤ 9223372036854775807) (hm2 : -1000000 ≤ n * (sb - 1) ∧ n * (sb - 1) ≤ 1000000) (hbg : decide (20000 < sa + n * (sb - 1)) = big)
    (hend : ∀ (w' : World), Chg (fun k => False ∨ False) w0 w' → Q .normal { tmps := (s0 :: s1 :: s2 :: s3 :: s4 :: (.pointer (some ⟨ga, 0, none⟩)) :: (.pointer (some ⟨gb, 0, none⟩)) :: s7 :: s8 :: s9 :: s10 :: s11 :: (.int .i64 n) :: s13 :: s14 :: s15 :: s16 :: s17 :: s18 :: s19 :: s20 :: s21 :: s22 :: s23 :: s24 :: s25 :: s26 :: s27 :: s28 :: s29 :: s30 :: s31 :: s32 :: s33 :: s34 :: s35 :: s36 :: s37 :: s38 :: s39 :: s40 :: s41 :: s42 :: s43 :: s44 :: s45 :: s46 :: s47 :: s48 :: s49 :: s50 :: s51 :: s52 :: s53 :: s54 :: s55 :: s56 :: s57 :: s58 :: s59 :: s60 :: s61 :: s62 :: s63 :: s64 :: s65 :: s66 :: s67 :: (tmV pa ta) :: (.int .i64 sa) :: (.int .i64 n) :: (tmV pb tb) :: (.int .i64 sb) :: (.int .i64 (sb - 1)) :: (.int .i64 (n * (sb - 1))) :: (.int .i64 (sa + n * (sb - 1))) :: (.bool big) :: s77 :: s78 :: s79 :: s80 :: s81 :: s82 :: s83 :: s84 :: s85 :: s86 :: s87 :: s88 :: s89 :: s90 :: s91 :: s92 :: s93 :: s94 :: s95 :: s96 :: s97 :: s98 :: s99 :: s100 :: s101 :: s102 :: s103 :: s104 :: s105 :: [] : List Value).toArray, defers := [] } w') :
    (Code.region id tk8b_ops.toArray true).wp Try.prog Q { tmps := (s0 :: s1 :: s2 :: s3 :: s4 :: (.pointer (some ⟨ga, 0, none⟩)) :: (.pointer (some ⟨gb, 0, none⟩)) :: s7 :: s8 :: s9 :: s10 :: s11 :: (.int .i64 n) :: s13 :: s14 :: s15 :: s16 :: s17 :: s18 :: s19 :: s20 :: s21 :: s22 :: s23 :: s24 :: s25 :: s26 :: s27 :: s28 :: s29 :: s30 :: s31 :: s32 :: s33 :: s34 :: s35 :: s36 :: s37 :: s38 :: s39 :: s40 :: s41 :: s42 :: s43 :: s44 :: s45 :: s46 :: s47 :: s48 :: s49 :: s50 :: s51 :: s52 :: s53 :: s54 :: s55 :: s56 :: s57 :: s58 :: s59 :: s60 :: s61 :: s62 :: s63 :: s64 :: s65 :: s66 :: s67 :: s68 :: s69 :: s70 :: s71 :: s72 :: s73 :: s74 :: s75 :: s76 :: s77 :: s78 :: s79 :: s80 :: s81 :: s82 :: s83 :: s84 :: s85 :: s86 :: s87 :: s88 :: s89 :: s90 :: s91 :: s92 :: s93 :: s94 :: s95 :: s96 :: s97 :: s98 :: s99 :: s100 :: s101 :: s102 :: s103 :: s104 :: s105 :: [] : List Value).toArray, defers := [] } w0 := by
  refine wp_region_est (by kernel_rfl) (est2 0 0 (fun _ => False) (fun _ => False)) tk8b_C (tk8b_F w0 B ga pa ta gb pb tb n sa sb big) (est2_dis (fun _ h _ => h)) (est2_range (fun _ h => h.elim) (fun _ h => h.elim)) (by rfl) (by kernel_rfl) (tk8b_obs w0.drew B ga pa ta gb pb tb n sa sb big hB hx5 (TmS.same hin5 (fun _ _ _ => rfl)) hx6 (TmS.same hin6 (fun _ _ _ => rfl)) ha hb hr hmr hm2 hbg _ _ rfl rfl rfl) ?_
  intro a w' O hd hs hb hf hf2 ha hsame
  have hl := slots_eq (ops := tk8b_ops.toArray) [(68, tmV pa ta), (69, .int .i64 sa), (70, .int .i64 n), (71, tmV pb tb), (72, .int .i64 sb), (73, .int .i64 (sb - 1)), (74, .int .i64 (n * (sb - 1))), (75, .int .i64 (sa + n * (sb - 1))), (76, .bool big)] (show a.tmps.size = 106 from hs) (fun i h => hsame i h) ⟨(hf 0 _ 68 rfl rfl (by decide)).1, (hf 1 _ 69 rfl rfl (by decide)).1, (hf 2 _ 70 rfl rfl (by decide)).1, (hf 3 _ 71 rfl rfl (by decide)).1, (hf 4 _ 72 rfl rfl (by decide)).1, (hf 5 _ 73 rfl rfl (by decide)).1, (hf 6 _ 74 rfl rfl (by decide)).1, (hf 7 _ 75 rfl rfl (by decide)).1, (hf 8 _ 76 rfl rfl (by decide)).1, trivial⟩ (by kernel_rfl)
  obtain ⟨tmps, defers⟩ := a
  obtain rfl : defers = [] := hd
  have hl' : tmps = _ := hl
  rw [hl']
  have hb' := est2_chg hb
  refine Eq.mp ?_ (hend w' ⟨hb'.os, hb'.tape, hb'.output, hb'.size, hb'.block⟩)
  kernel_rfl

def tk10l_ops : List Oper := [
  { dst := some 78, op := Go.Op.load 28 (Go.Operand.tmp 11), type := 28, pos := "law.go:156", after := #[], guard := none },
  { dst := some 79, op := Go.Op.call { callee := Go.Callee.value (Go.Operand.func 20), args := #[Go.Operand.tmp 78], argTypes := #[28] }, type := 3, pos := "law.go:156", after := #[{ on := 0, ground := Go.Ground.data }], guard := none },
  { dst := some 80, op := Go.Op.load 28 (Go.Operand.tmp 5), type := 28, pos := "law.go:156", after := #[], guard := none },
  { dst := some 81, op := Go.Op.call { callee := Go.Callee.value (Go.Operand.func 20), args := #[Go.Operand.tmp 80], argTypes := #[28] }, type := 3, pos := "law.go:156", after := #[{ on := 2, ground := Go.Ground.data }, { on := 1, ground := Go.Ground.chain }], guard := none },
  { dst := some 82, op := Go.Op.move (Go.Operand.tmp 12), type := 3, pos := "law.go:156", after := #[], guard := none },
  { dst := some 83, op := Go.Op.load 28 (Go.Operand.tmp 6), type := 28, pos := "law.go:156", after := #[], guard := none },
  { dst := some 84, op := Go.Op.call { callee := Go.Callee.value (Go.Operand.func 20), args := #[Go.Operand.tmp 83], argTypes := #[28] }, type := 3, pos := "law.go:156", after := #[{ on := 5, ground := Go.Ground.data }, { on := 3, ground := Go.Ground.chain }], guard := none },
  { dst := some 85, op := Go.Op.binOp Go.BinOp.sub 3 (Go.Operand.tmp 84) (Go.Operand.const (Go.Value.int Go.IntKind.i64 1)) 3, type := 3, pos := "law.go:156", after := #[{ on := 6, ground := Go.Ground.data }], guard := none },
  { dst := some 86, op := Go.Op.binOp Go.BinOp.mul 3 (Go.Operand.tmp 82) (Go.Operand.tmp 85) 3, type := 3, pos := "law.go:156", after := #[{ on := 4, ground := Go.Ground.data }, { on := 7, ground := Go.Ground.data }], guard := none },
  { dst := some 87, op := Go.Op.binOp Go.BinOp.add 3 (Go.Operand.tmp 81) (Go.Operand.tmp 86) 3, type := 3, pos := "law.go:156", after := #[{ on := 3, ground := Go.Ground.data }, { on := 8, ground := Go.Ground.data }], guard := none },
  { dst := some 88, op := Go.Op.binOp Go.BinOp.eql 3 (Go.Operand.tmp 79) (Go.Operand.tmp 87) 3, type := 4, pos := "law.go:156", after := #[{ on := 1, ground := Go.Ground.data }, { on := 9, ground := Go.Ground.data }], guard := none },
  { dst := some 89, op := Go.Op.move (Go.Operand.tmp 88), type := 4, pos := "law.go:156", after := #[{ on := 10, ground := Go.Ground.data }, { on := 6, ground := Go.Ground.chain }], guard := none },
  { dst := some 90, op := Go.Op.load 28 (Go.Operand.tmp 5), type := 28, pos := "law.go:156", after := #[{ on := 11, ground := Go.Ground.guard }], guard := some (11, true) },
  { dst := some 91, op := Go.Op.call { callee := Go.Callee.value (Go.Operand.func 37), args := #[Go.Operand.tmp 90], argTypes := #[28] }, type := 3, pos := "law.go:156", after := #[{ on := 12, ground := Go.Ground.data }, { on := 11, ground := Go.Ground.chain }, { on := 11, ground := Go.Ground.guard }], guard := some (11, true) },
  { dst := some 92, op := Go.Op.binOp Go.BinOp.gtr 3 (Go.Operand.tmp 91) (Go.Operand.const (Go.Value.int Go.IntKind.i64 1)) 3, type := 4, pos := "law.go:156", after := #[{ on := 13, ground := Go.Ground.data }, { on := 11, ground := Go.Ground.guard }], guard := some (11, true) },
  { dst := some 93, op := Go.Op.move (Go.Operand.tmp 92), type := 4, pos := "law.go:156", after := #[{ on := 14, ground := Go.Ground.data }, { on := 13, ground := Go.Ground.chain }, { on := 11, ground := Go.Ground.guard }], guard := some (11, true) },
  { dst := some 94, op := Go.Op.move (Go.Operand.tmp 12), type := 3, pos := "law.go:156", after := #[{ on := 15, ground := Go.Ground.guard }], guard := some (15, false) },
  { dst := some 95, op := Go.Op.binOp Go.BinOp.gtr 3 (Go.Operand.tmp 94) (Go.Operand.const (Go.Value.int Go.IntKind.i64 0)) 3, type := 4, pos := "law.go:156", after := #[{ on := 16, ground := Go.Ground.data }, { on := 15, ground := Go.Ground.guard }], guard := some (15, false) },
  { dst := some 96, op := Go.Op.pick (Go.Operand.tmp 93) (Go.Operand.const (Go.Value.bool true)) (Go.Operand.tmp 95), type := 4, pos := "law.go:156", after := #[{ on := 15, ground := Go.Ground.data }, { on := 17, ground := Go.Ground.data }, { on := 11, ground := Go.Ground.guard }], guard := some (11, true) },
  { dst := some 97, op := Go.Op.move (Go.Operand.tmp 96), type := 4, pos := "law.go:156", after := #[{ on := 18, ground := Go.Ground.data }, { on := 15, ground := Go.Ground.chain }, { on := 11, ground := Go.Ground.guard }], guard := some (11, true) },
  { dst := some 98, op := Go.Op.load 28 (Go.Operand.tmp 11), type := 28, pos := "law.go:156", after := #[{ on := 19, ground := Go.Ground.guard }], guard := some (19, false) },
  { dst := some 99, op := Go.Op.call { callee := Go.Callee.value (Go.Operand.func 37), args := #[Go.Operand.tmp 98], argTypes := #[28] }, type := 3, pos := "law.go:156", after := #[{ on := 20, ground := Go.Ground.data }, { on := 19, ground := Go.Ground.chain }, { on := 19, ground := Go.Ground.guard }], guard := some (19, false) },
  { dst := some 100, op := Go.Op.binOp Go.BinOp.eql 3 (Go.Operand.tmp 99) (Go.Operand.const (Go.Value.int Go.IntKind.i64 0)) 3, type := 4, pos := "law.go:156", after := #[{ on := 21, ground := Go.Ground.data }, { on := 19, ground := Go.Ground.guard }], guard := some (19, false) },
  { dst := some 101, op := Go.Op.pick (Go.Operand.tmp 97) (Go.Operand.const (Go.Value.bool true)) (Go.Operand.tmp 100), type := 4, pos := "law.go:156", after := #[{ on := 19, ground := Go.Ground.data }, { on := 22, ground := Go.Ground.data }, { on := 11, ground := Go.Ground.guard }], guard := some (11, true) },
  { dst := some 102, op := Go.Op.pick (Go.Operand.tmp 89) (Go.Operand.tmp 101) (Go.Operand.const (Go.Value.bool false)), type := 4, pos := "law.go:156", after := #[{ on := 11, ground := Go.Ground.data }, { on := 23, ground := Go.Ground.data }], guard := none },
  { dst := some 103, op := Go.Op.move (Go.Operand.tmp 102), type := 4, pos := "law.go:156", after := #[{ on := 24, ground := Go.Ground.data }, { on := 21, ground := Go.Ground.chain }], guard := none },
  { dst := some 104, op := Go.Op.call { callee := Go.Callee.value (Go.Operand.func 25), args := #[], argTypes := #[] }, type := 4, pos := "law.go:156", after := #[{ on := 25, ground := Go.Ground.chain }, { on := 25, ground := Go.Ground.guard }], guard := some (25, true) },
  { dst := some 105, op := Go.Op.pick (Go.Operand.tmp 103) (Go.Operand.tmp 104) (Go.Operand.const (Go.Value.bool false)), type := 4, pos := "law.go:156", after := #[{ on := 25, ground := Go.Ground.data }, { on := 26, ground := Go.Ground.data }], guard := none },
  { dst := some 10, op := Go.Op.assign (Go.Operand.tmp 105), type := 4, pos := "law.go:156", after := #[{ on := 27, ground := Go.Ground.data }, { on := 26, ground := Go.Ground.chain }, { on := 0, ground := Go.Ground.phase }, { on := 1, ground := Go.Ground.phase }, { on := 2, ground := Go.Ground.phase }, { on := 3, ground := Go.Ground.phase }, { on := 4, ground := Go.Ground.phase }, { on := 5, ground := Go.Ground.phase }, { on := 6, ground := Go.Ground.phase }, { on := 7, ground := Go.Ground.phase }, { on := 8, ground := Go.Ground.phase }, { on := 9, ground := Go.Ground.phase }, { on := 10, ground := Go.Ground.phase }, { on := 11, ground := Go.Ground.phase }, { on := 12, ground := Go.Ground.phase }, { on := 13, ground := Go.Ground.phase }, { on := 14, ground := Go.Ground.phase }, { on := 15, ground := Go.Ground.phase }, { on := 16, ground := Go.Ground.phase }, { on := 17, ground := Go.Ground.phase }, { on := 18, ground := Go.Ground.phase }, { on := 19, ground := Go.Ground.phase }, { on := 20, ground := Go.Ground.phase }, { on := 21, ground := Go.Ground.phase }, { on := 22, ground := Go.Ground.phase }, { on := 23, ground := Go.Ground.phase }, { on := 24, ground := Go.Ground.phase }, { on := 25, ground := Go.Ground.phase }, { on := 26, ground := Go.Ground.phase }, { on := 27, ground := Go.Ground.phase }], guard := none }]
def tk10l_F (w0 : World) (B : Nat) (ga : Nat) (pa : Pl) (ta : Tm) (gb : Nat) (pb : Pl) (tb : Tm) (gx : Nat) (px : Pl) (tx : Tm) (n sa sb la : Int) : Nat → (Nat → Value) → Value → World → (Nat → Prop) → Prop := fun rix => match rix with
  | 0 => fun _ v _ _ => v = tmV px tx
  | 1 => fun _ v _ _ => v = .int .i64 (sa + n * (sb - 1))
  | 2 => fun _ v _ _ => v = tmV pa ta
  | 3 => fun _ v _ _ => v = .int .i64 sa
  | 4 => fun _ v _ _ => v = .int .i64 n
  | 5 => fun _ v _ _ => v = tmV pb tb
  | 6 => fun _ v _ _ => v = .int .i64 sb
  | 7 => fun _ v _ _ => v = .int .i64 (sb - 1)
  | 8 => fun _ v _ _ => v = .int .i64 (n * (sb - 1))
  | 9 => fun _ v _ _ => v = .int .i64 (sa + n * (sb - 1))
  | 10 => fun _ v _ _ => v = .bool true
  | 11 => fun _ v _ _ => v = .bool true
  | 12 => fun _ v _ _ => v = tmV pa ta
  | 13 => fun _ v _ _ => v = .int .i64 la
  | 14 => fun _ v _ _ => v = .bool true
  | 15 => fun _ v _ _ => v = .bool true
  | 16 => fun _ v _ _ => v = undef
  | 17 => fun _ v _ _ => v = undef
  | 18 => fun _ v _ _ => v = .bool true
  | 19 => fun _ v _ _ => v = .bool true
  | 20 => fun _ v _ _ => v = undef
  | 21 => fun _ v _ _ => v = undef
  | 22 => fun _ v _ _ => v = undef
  | 23 => fun _ v _ _ => v = .bool true
  | 24 => fun _ v _ _ => v = .bool true
  | 25 => fun _ v _ _ => v = .bool true
  | 26 => fun _ v _ _ => v = .bool true
  | 27 => fun _ v _ _ => v = .bool true
  | 28 => fun _ v _ _ => v = .bool true
  | _ => fun _ _ _ _ => True
def tk10l_C : Nat → List Nat := fun rix => match rix with
  | _ => []
theorem tk10l_nw5 : nwB tk10l_ops.toArray 5 = true := by kernel_rfl
theorem tk10l_nw6 : nwB tk10l_ops.toArray 6 = true := by kernel_rfl
theorem tk10l_nw11 : nwB tk10l_ops.toArray 11 = true := by kernel_rfl
theorem tk10l_nw12 : nwB tk10l_ops.toArray 12 = true := by kernel_rfl
set_option maxRecDepth 100000 in
set_option maxHeartbeats 8000000 in
theorem tk10l_obs (w0 : World) (B : Nat) (ga : Nat) (pa : Pl) (ta : Tm) (gb : Nat) (pb : Pl) (tb : Tm) (gx : Nat) (px : Pl) (tx : Tm) (n sa sb la : Int) (hB : B ≤ w0.heap.size) (hx5 : w0.heap[ga]? = some (tmO pa ta)) (hin5 : TmIn w0 B pa ta) (hx6 : w0.heap[gb]? = some (tmO pb tb)) (hin6 : TmIn w0 B pb tb) (hx11 : w0.heap[gx]? = some (tmO px tx)) (hin11 : TmIn w0 B px tx) (ha : (measP ta).1 = sa) (hb : (measP tb).1 = sb) (hx : (measP tx).1 = sa + n * (sb - 1)) (hla : LooseT ta = la) (hr : 0 ≤ sa ∧ sa ≤ 400 ∧ 0 ≤ sb ∧ sb ≤ 400) (hmr : -9223372036854775808 ≤ n * (sb - 1) ∧ n * (sb - 1) ≤ 9223372036854775807) (hm2 : -1000000 ≤ n * (sb - 1) ∧ n * (sb - 1) ≤ 1000000) (hw : 1 < la) (Q : Exit → Act → World → Prop) (a0 : Act) (hi5 : a0.tmps.getD 5 undef = .pointer (some ⟨ga, 0, none⟩)) (hi6 : a0.tmps.getD 6 undef = .pointer (some ⟨gb, 0, none⟩)) (hi11 : a0.tmps.getD 11 undef = .pointer (some ⟨gx, 0, none⟩)) (hi12 : a0.tmps.getD 12 undef = .int .i64 n) :
    ObsE Try.prog tk10l_ops.toArray Q (est2 0 0 (fun _ => False) (fun _ => False)) tk10l_C (tk10l_F w0 B ga pa ta gb pb tb gx px tx n sa sb la) a0 w0 tk10l_ops.toArray.toList 0 := by
  have nw5 := tk10l_nw5
  have nw6 := tk10l_nw6
  have nw11 := tk10l_nw11
  have nw12 := tk10l_nw12
  refine ⟨?_, ?_, ?_, ?_, ?_, ?_, ?_, ?_, ?_, ?_, ?_, ?_, ?_, ?_, ?_, ?_, ?_, ?_, ?_, ?_, ?_, ?_, ?_, ?_, ?_, ?_, ?_, ?_, ?_, trivial⟩
  · refine ⟨⟨fun τ => stableE_det _, leans_not⟩, ?_⟩
    intro a w O hk
    have e11 : a.eval (.tmp 11) = .pointer (some ⟨gx, 0, none⟩) := (hk.init 11 (initialB_of_nw nw11)).trans hi11
    have x5 := hk.world.still hx5 (fun ⟨_, h⟩ => h.elim And.right And.right)
    have x6 := hk.world.still hx6 (fun ⟨_, h⟩ => h.elim And.right And.right)
    have x11 := hk.world.still hx11 (fun ⟨_, h⟩ => h.elim And.right And.right)
    have hfx : ∀ k, k < B → w.heap[k]? = w0.heap[k]? := fun k hk' => hk.fix k ((fun k hk' => est2_fix (Nat.lt_of_lt_of_le hk' hB) (fun e => e.elim) (fun e => e.elim)) k hk')
    have hsz := hk.world.size
    have y5 := hin5.same (w' := w) (fun k hk' _ => hfx k hk')
    have y6 := hin6.same (w' := w) (fun k hk' _ => hfx k hk')
    have y11 := hin11.same (w' := w) (fun k hk' _ => hfx k hk')
    exact obE_loadRow rfl e11 x11 Try.underlying28 rfl (by kernel_rfl) (wanted_none rfl) rfl
  · refine ⟨⟨fun τ => stableE_det _, leans_not⟩, ?_⟩
    intro a w O hk
    have e78 : a.eval (.tmp 78) = tmV px tx := hk.fact 0 _ 78 rfl rfl rfl rfl
    have x5 := hk.world.still hx5 (fun ⟨_, h⟩ => h.elim And.right And.right)
    have x6 := hk.world.still hx6 (fun ⟨_, h⟩ => h.elim And.right And.right)
    have x11 := hk.world.still hx11 (fun ⟨_, h⟩ => h.elim And.right And.right)
    have hfx : ∀ k, k < B → w.heap[k]? = w0.heap[k]? := fun k hk' => hk.fix k ((fun k hk' => est2_fix (Nat.lt_of_lt_of_le hk' hB) (fun e => e.elim) (fun e => e.elim)) k hk')
    have hsz := hk.world.size
    have y5 := hin5.same (w' := w) (fun k hk' _ => hfx k hk')
    have y6 := hin6.same (w' := w) (fun k hk' _ => hfx k hk')
    have y11 := hin11.same (w' := w) (fun k hk' _ => hfx k hk')
    exact obE_callV #[tmV px tx] rfl rfl rfl rfl (by simp only [List.map_cons, List.map_nil]; rw [e78]; try rfl) (wanted_none rfl) ((size_calls tx px w (TmIn.mono y11 (Nat.le_trans hB hsz))).mono fun e w' h => ⟨by rw [h.1, hx], h.2⟩)
  · refine ⟨⟨fun τ => stableE_det _, leans_not⟩, ?_⟩
    intro a w O hk
    have e5 : a.eval (.tmp 5) = .pointer (some ⟨ga, 0, none⟩) := (hk.init 5 (initialB_of_nw nw5)).trans hi5
    have x5 := hk.world.still hx5 (fun ⟨_, h⟩ => h.elim And.right And.right)
    have x6 := hk.world.still hx6 (fun ⟨_, h⟩ => h.elim And.right And.right)
    have x11 := hk.world.still hx11 (fun ⟨_, h⟩ => h.elim And.right And.right)
    have hfx : ∀ k, k < B → w.heap[k]? = w0.heap[k]? := fun k hk' => hk.fix k ((fun k hk' => est2_fix (Nat.lt_of_lt_of_le hk' hB) (fun e => e.elim) (fun e => e.elim)) k hk')
    have hsz := hk.world.size
    have y5 := hin5.same (w' := w) (fun k hk' _ => hfx k hk')
    have y6 := hin6.same (w' := w) (fun k hk' _ => hfx k hk')
    have y11 := hin11.same (w' := w) (fun k hk' _ => hfx k hk')
    exact obE_loadRow rfl e5 x5 Try.underlying28 rfl (by kernel_rfl) (wanted_none rfl) rfl
  · refine ⟨⟨fun τ => stableE_det _, leans_not⟩, ?_⟩
    intro a w O hk
    have e80 : a.eval (.tmp 80) = tmV pa ta := hk.fact 2 _ 80 rfl rfl rfl rfl
    have x5 := hk.world.still hx5 (fun ⟨_, h⟩ => h.elim And.right And.right)
    have x6 := hk.world.still hx6 (fun ⟨_, h⟩ => h.elim And.right And.right)
    have x11 := hk.world.still hx11 (fun ⟨_, h⟩ => h.elim And.right And.right)
    have hfx : ∀ k, k < B → w.heap[k]? = w0.heap[k]? := fun k hk' => hk.fix k ((fun k hk' => est2_fix (Nat.lt_of_lt_of_le hk' hB) (fun e => e.elim) (fun e => e.elim)) k hk')
    have hsz := hk.world.size
    have y5 := hin5.same (w' := w) (fun k hk' _ => hfx k hk')
    have y6 := hin6.same (w' := w) (fun k hk' _ => hfx k hk')
    have y11 := hin11.same (w' := w) (fun k hk' _ => hfx k hk')
    exact obE_callV #[tmV pa ta] rfl rfl rfl rfl (by simp only [List.map_cons, List.map_nil]; rw [e80]; try rfl) (wanted_none rfl) ((size_calls ta pa w (TmIn.mono y5 (Nat.le_trans hB hsz))).mono fun e w' h => ⟨by rw [h.1, ha], h.2⟩)
  · refine ⟨⟨fun τ => stableE_det _, leans_not⟩, ?_⟩
    intro a w O hk
    have e12 : a.eval (.tmp 12) = .int .i64 n := (hk.init 12 (initialB_of_nw nw12)).trans hi12
    exact toE (ob_move rfl e12 (wanted_none rfl) rfl)
  · refine ⟨⟨fun τ => stableE_det _, leans_not⟩, ?_⟩
    intro a w O hk
    have e6 : a.eval (.tmp 6) = .pointer (some ⟨gb, 0, none⟩) := (hk.init 6 (initialB_of_nw nw6)).trans hi6
    have x5 := hk.world.still hx5 (fun ⟨_, h⟩ => h.elim And.right And.right)
    have x6 := hk.world.still hx6 (fun ⟨_, h⟩ => h.elim And.right And.right)
    have x11 := hk.world.still hx11 (fun ⟨_, h⟩ => h.elim And.right And.right)
    have hfx : ∀ k, k < B → w.heap[k]? = w0.heap[k]? := fun k hk' => hk.fix k ((fun k hk' => est2_fix (Nat.lt_of_lt_of_le hk' hB) (fun e => e.elim) (fun e => e.elim)) k hk')
    have hsz := hk.world.size
    have y5 := hin5.same (w' := w) (fun k hk' _ => hfx k hk')
    have y6 := hin6.same (w' := w) (fun k hk' _ => hfx k hk')
    have y11 := hin11.same (w' := w) (fun k hk' _ => hfx k hk')
    exact obE_loadRow rfl e6 x6 Try.underlying28 rfl (by kernel_rfl) (wanted_none rfl) rfl
  · refine ⟨⟨fun τ => stableE_det _, leans_not⟩, ?_⟩
    intro a w O hk
    have e83 : a.eval (.tmp 83) = tmV pb tb := hk.fact 5 _ 83 rfl rfl rfl rfl
    have x5 := hk.world.still hx5 (fun ⟨_, h⟩ => h.elim And.right And.right)
    have x6 := hk.world.still hx6 (fun ⟨_, h⟩ => h.elim And.right And.right)
    have x11 := hk.world.still hx11 (fun ⟨_, h⟩ => h.elim And.right And.right)
    have hfx : ∀ k, k < B → w.heap[k]? = w0.heap[k]? := fun k hk' => hk.fix k ((fun k hk' => est2_fix (Nat.lt_of_lt_of_le hk' hB) (fun e => e.elim) (fun e => e.elim)) k hk')
    have hsz := hk.world.size
    have y5 := hin5.same (w' := w) (fun k hk' _ => hfx k hk')
    have y6 := hin6.same (w' := w) (fun k hk' _ => hfx k hk')
    have y11 := hin11.same (w' := w) (fun k hk' _ => hfx k hk')
    exact obE_callV #[tmV pb tb] rfl rfl rfl rfl (by simp only [List.map_cons, List.map_nil]; rw [e83]; try rfl) (wanted_none rfl) ((size_calls tb pb w (TmIn.mono y6 (Nat.le_trans hB hsz))).mono fun e w' h => ⟨by rw [h.1, hb], h.2⟩)
  · refine ⟨⟨fun τ => stableE_det _, leans_not⟩, ?_⟩
    intro a w O hk
    have e84 : a.eval (.tmp 84) = .int .i64 sb := hk.fact 6 _ 84 rfl rfl rfl rfl
    have x5 := hk.world.still hx5 (fun ⟨_, h⟩ => h.elim And.right And.right)
    have x6 := hk.world.still hx6 (fun ⟨_, h⟩ => h.elim And.right And.right)
    have x11 := hk.world.still hx11 (fun ⟨_, h⟩ => h.elim And.right And.right)
    have hfx : ∀ k, k < B → w.heap[k]? = w0.heap[k]? := fun k hk' => hk.fix k ((fun k hk' => est2_fix (Nat.lt_of_lt_of_le hk' hB) (fun e => e.elim) (fun e => e.elim)) k hk')
    have hsz := hk.world.size
    have y5 := hin5.same (w' := w) (fun k hk' _ => hfx k hk')
    have y6 := hin6.same (w' := w) (fun k hk' _ => hfx k hk')
    have y11 := hin11.same (w' := w) (fun k hk' _ => hfx k hk')
    have hw9 : IntKind.i64.wrap (sb - 1) = sb - 1 := IntWalk.i64_in _ (by omega)
    exact obE_run (wanted_none rfl) (by unfold execOp; simp only []; rw [e84]; go_simp) rfl
  · refine ⟨⟨fun τ => stableE_det _, leans_not⟩, ?_⟩
    intro a w O hk
    have e82 : a.eval (.tmp 82) = .int .i64 n := hk.fact 4 _ 82 rfl rfl rfl rfl
    have e85 : a.eval (.tmp 85) = .int .i64 (sb - 1) := hk.fact 7 _ 85 rfl rfl rfl rfl
    have x5 := hk.world.still hx5 (fun ⟨_, h⟩ => h.elim And.right And.right)
    have x6 := hk.world.still hx6 (fun ⟨_, h⟩ => h.elim And.right And.right)
    have x11 := hk.world.still hx11 (fun ⟨_, h⟩ => h.elim And.right And.right)
    have hfx : ∀ k, k < B → w.heap[k]? = w0.heap[k]? := fun k hk' => hk.fix k ((fun k hk' => est2_fix (Nat.lt_of_lt_of_le hk' hB) (fun e => e.elim) (fun e => e.elim)) k hk')
    have hsz := hk.world.size
    have y5 := hin5.same (w' := w) (fun k hk' _ => hfx k hk')
    have y6 := hin6.same (w' := w) (fun k hk' _ => hfx k hk')
    have y11 := hin11.same (w' := w) (fun k hk' _ => hfx k hk')
    have hw9 : IntKind.i64.wrap (n * (sb - 1)) = n * (sb - 1) := IntWalk.i64_in _ hmr
    exact obE_run (wanted_none rfl) (by unfold execOp; simp only []; rw [e82, e85]; go_simp) rfl
  · refine ⟨⟨fun τ => stableE_det _, leans_not⟩, ?_⟩
    intro a w O hk
    have e81 : a.eval (.tmp 81) = .int .i64 sa := hk.fact 3 _ 81 rfl rfl rfl rfl
    have e86 : a.eval (.tmp 86) = .int .i64 (n * (sb - 1)) := hk.fact 8 _ 86 rfl rfl rfl rfl
    have x5 := hk.world.still hx5 (fun ⟨_, h⟩ => h.elim And.right And.right)
    have x6 := hk.world.still hx6 (fun ⟨_, h⟩ => h.elim And.right And.right)
    have x11 := hk.world.still hx11 (fun ⟨_, h⟩ => h.elim And.right And.right)
    have hfx : ∀ k, k < B → w.heap[k]? = w0.heap[k]? := fun k hk' => hk.fix k ((fun k hk' => est2_fix (Nat.lt_of_lt_of_le hk' hB) (fun e => e.elim) (fun e => e.elim)) k hk')
    have hsz := hk.world.size
    have y5 := hin5.same (w' := w) (fun k hk' _ => hfx k hk')
    have y6 := hin6.same (w' := w) (fun k hk' _ => hfx k hk')
    have y11 := hin11.same (w' := w) (fun k hk' _ => hfx k hk')
    have hw9 : IntKind.i64.wrap (sa + n * (sb - 1)) = sa + n * (sb - 1) := IntWalk.i64_in _ (by omega)
    exact obE_run (wanted_none rfl) (by unfold execOp; simp only []; rw [e81, e86]; go_simp) rfl
  · refine ⟨⟨fun τ => stableE_det _, leans_not⟩, ?_⟩
    intro a w O hk
    have e79 : a.eval (.tmp 79) = .int .i64 (sa + n * (sb - 1)) := hk.fact 1 _ 79 rfl rfl rfl rfl
    have e87 : a.eval (.tmp 87) = .int .i64 (sa + n * (sb - 1)) := hk.fact 9 _ 87 rfl rfl rfl rfl
    exact toE (ob_eqlInt true rfl e79 e87 (by simp) (wanted_none rfl) rfl)
  · refine ⟨⟨fun τ => stableE_det _, leans_not⟩, ?_⟩
    intro a w O hk
    have e88 : a.eval (.tmp 88) = .bool true := hk.fact 10 _ 88 rfl rfl rfl rfl
    exact toE (ob_move rfl e88 (wanted_none rfl) rfl)
  · refine ⟨⟨fun τ => stableE_det _, leans_not⟩, ?_⟩
    intro a w O hk
    have e5 : a.eval (.tmp 5) = .pointer (some ⟨ga, 0, none⟩) := (hk.init 5 (initialB_of_nw nw5)).trans hi5
    have e89 : a.eval (.tmp 89) = .bool true := hk.fact 11 _ 89 rfl rfl rfl rfl
    have x5 := hk.world.still hx5 (fun ⟨_, h⟩ => h.elim And.right And.right)
    have x6 := hk.world.still hx6 (fun ⟨_, h⟩ => h.elim And.right And.right)
    have x11 := hk.world.still hx11 (fun ⟨_, h⟩ => h.elim And.right And.right)
    have hfx : ∀ k, k < B → w.heap[k]? = w0.heap[k]? := fun k hk' => hk.fix k ((fun k hk' => est2_fix (Nat.lt_of_lt_of_le hk' hB) (fun e => e.elim) (fun e => e.elim)) k hk')
    have hsz := hk.world.size
    have y5 := hin5.same (w' := w) (fun k hk' _ => hfx k hk')
    have y6 := hin6.same (w' := w) (fun k hk' _ => hfx k hk')
    have y11 := hin11.same (w' := w) (fun k hk' _ => hfx k hk')
    exact obE_loadRow rfl e5 x5 Try.underlying28 rfl (by kernel_rfl) (wanted_of rfl rfl rfl e89) rfl
  · refine ⟨⟨fun τ => stableE_det _, leans_not⟩, ?_⟩
    intro a w O hk
    have e90 : a.eval (.tmp 90) = tmV pa ta := hk.fact 12 _ 90 rfl rfl rfl rfl
    have e89 : a.eval (.tmp 89) = .bool true := hk.fact 11 _ 89 rfl rfl rfl rfl
    have x5 := hk.world.still hx5 (fun ⟨_, h⟩ => h.elim And.right And.right)
    have x6 := hk.world.still hx6 (fun ⟨_, h⟩ => h.elim And.right And.right)
    have x11 := hk.world.still hx11 (fun ⟨_, h⟩ => h.elim And.right And.right)
    have hfx : ∀ k, k < B → w.heap[k]? = w0.heap[k]? := fun k hk' => hk.fix k ((fun k hk' => est2_fix (Nat.lt_of_lt_of_le hk' hB) (fun e => e.elim) (fun e => e.elim)) k hk')
    have hsz := hk.world.size
    have y5 := hin5.same (w' := w) (fun k hk' _ => hfx k hk')
    have y6 := hin6.same (w' := w) (fun k hk' _ => hfx k hk')
    have y11 := hin11.same (w' := w) (fun k hk' _ => hfx k hk')
    exact obE_callV #[tmV pa ta] rfl rfl rfl rfl (by simp only [List.map_cons, List.map_nil]; rw [e90]; try rfl) (wanted_of rfl rfl rfl e89) ((loose_calls ta pa w (TmIn.mono y5 (Nat.le_trans hB hsz))).mono fun e w' h => ⟨by rw [h.1, hla], h.2⟩)
  · refine ⟨⟨fun τ => stableE_det _, leans_not⟩, ?_⟩
    intro a w O hk
    have e91 : a.eval (.tmp 91) = .int .i64 la := hk.fact 13 _ 91 rfl rfl rfl rfl
    have e89 : a.eval (.tmp 89) = .bool true := hk.fact 11 _ 89 rfl rfl rfl rfl
    have x5 := hk.world.still hx5 (fun ⟨_, h⟩ => h.elim And.right And.right)
    have x6 := hk.world.still hx6 (fun ⟨_, h⟩ => h.elim And.right And.right)
    have x11 := hk.world.still hx11 (fun ⟨_, h⟩ => h.elim And.right And.right)
    have hfx : ∀ k, k < B → w.heap[k]? = w0.heap[k]? := fun k hk' => hk.fix k ((fun k hk' => est2_fix (Nat.lt_of_lt_of_le hk' hB) (fun e => e.elim) (fun e => e.elim)) k hk')
    have hsz := hk.world.size
    have y5 := hin5.same (w' := w) (fun k hk' _ => hfx k hk')
    have y6 := hin6.same (w' := w) (fun k hk' _ => hfx k hk')
    have y11 := hin11.same (w' := w) (fun k hk' _ => hfx k hk')
    exact obE_run (wanted_of rfl rfl rfl e89) (by unfold execOp; simp only []; rw [e91]; go_simp <;> (simp <;> omega)) rfl
  · refine ⟨⟨fun τ => stableE_det _, leans_not⟩, ?_⟩
    intro a w O hk
    have e92 : a.eval (.tmp 92) = .bool true := hk.fact 14 _ 92 rfl rfl rfl rfl
    have e89 : a.eval (.tmp 89) = .bool true := hk.fact 11 _ 89 rfl rfl rfl rfl
    exact toE (ob_move rfl e92 (wanted_of rfl rfl rfl e89) rfl)
  · refine ⟨⟨fun τ => stableE_det _, leans_not⟩, ?_⟩
    intro a w O hk
    have e12 : a.eval (.tmp 12) = .int .i64 n := (hk.init 12 (initialB_of_nw nw12)).trans hi12
    have e93 : a.eval (.tmp 93) = .bool true := hk.fact 15 _ 93 rfl rfl rfl rfl
    exact toE (ob_skip (unwanted_of rfl rfl rfl e93 (by decide)) rfl)
  · refine ⟨⟨fun τ => stableE_det _, leans_not⟩, ?_⟩
    intro a w O hk
    have e94 : a.eval (.tmp 94) = undef := hk.fact 16 _ 94 rfl rfl rfl rfl
    have e93 : a.eval (.tmp 93) = .bool true := hk.fact 15 _ 93 rfl rfl rfl rfl
    exact toE (ob_skip (unwanted_of rfl rfl rfl e93 (by decide)) rfl)
  · refine ⟨⟨fun τ => stableE_det _, leans_not⟩, ?_⟩
    intro a w O hk
    have e93 : a.eval (.tmp 93) = .bool true := hk.fact 15 _ 93 rfl rfl rfl rfl
    have e95 : a.eval (.tmp 95) = undef := hk.fact 17 _ 95 rfl rfl rfl rfl
    have e89 : a.eval (.tmp 89) = .bool true := hk.fact 11 _ 89 rfl rfl rfl rfl
    exact toE (ob_pick rfl e93 rfl (wanted_of rfl rfl rfl e89) rfl)
  · refine ⟨⟨fun τ => stableE_det _, leans_not⟩, ?_⟩
    intro a w O hk
    have e96 : a.eval (.tmp 96) = .bool true := hk.fact 18 _ 96 rfl rfl rfl rfl
    have e89 : a.eval (.tmp 89) = .bool true := hk.fact 11 _ 89 rfl rfl rfl rfl
    exact toE (ob_move rfl e96 (wanted_of rfl rfl rfl e89) rfl)
  · refine ⟨⟨fun τ => stableE_det _, leans_not⟩, ?_⟩
    intro a w O hk
    have e11 : a.eval (.tmp 11) = .pointer (some ⟨gx, 0, none⟩) := (hk.init 11 (initialB_of_nw nw11)).trans hi11
    have e97 : a.eval (.tmp 97) = .bool true := hk.fact 19 _ 97 rfl rfl rfl rfl
    exact toE (ob_skip (unwanted_of rfl rfl rfl e97 (by decide)) rfl)
  · refine ⟨⟨fun τ => stableE_det _, leans_not⟩, ?_⟩
    intro a w O hk
    have e98 : a.eval (.tmp 98) = undef := hk.fact 20 _ 98 rfl rfl rfl rfl
    have e97 : a.eval (.tmp 97) = .bool true := hk.fact 19 _ 97 rfl rfl rfl rfl
    exact toE (ob_skip (unwanted_of rfl rfl rfl e97 (by decide)) rfl)
  · refine ⟨⟨fun τ => stableE_det _, leans_not⟩, ?_⟩
    intro a w O hk
    have e99 : a.eval (.tmp 99) = undef := hk.fact 21 _ 99 rfl rfl rfl rfl
    have e97 : a.eval (.tmp 97) = .bool true := hk.fact 19 _ 97 rfl rfl rfl rfl
    exact toE (ob_skip (unwanted_of rfl rfl rfl e97 (by decide)) rfl)
  · refine ⟨⟨fun τ => stableE_det _, leans_not⟩, ?_⟩
    intro a w O hk
    have e97 : a.eval (.tmp 97) = .bool true := hk.fact 19 _ 97 rfl rfl rfl rfl
    have e100 : a.eval (.tmp 100) = undef := hk.fact 22 _ 100 rfl rfl rfl rfl
    have e89 : a.eval (.tmp 89) = .bool true := hk.fact 11 _ 89 rfl rfl rfl rfl
    exact toE (ob_pick rfl e97 rfl (wanted_of rfl rfl rfl e89) rfl)
  · refine ⟨⟨fun τ => stableE_det _, leans_not⟩, ?_⟩
    intro a w O hk
    have e89 : a.eval (.tmp 89) = .bool true := hk.fact 11 _ 89 rfl rfl rfl rfl
    have e101 : a.eval (.tmp 101) = .bool true := hk.fact 23 _ 101 rfl rfl rfl rfl
    exact toE (ob_pick rfl e89 e101 (wanted_none rfl) rfl)
  · refine ⟨⟨fun τ => stableE_det _, leans_not⟩, ?_⟩
    intro a w O hk
    have e102 : a.eval (.tmp 102) = .bool true := hk.fact 24 _ 102 rfl rfl rfl rfl
    exact toE (ob_move rfl e102 (wanted_none rfl) rfl)
  · refine ⟨⟨fun τ => stableE_det _, leans_not⟩, ?_⟩
    intro a w O hk
    have e103 : a.eval (.tmp 103) = .bool true := hk.fact 25 _ 103 rfl rfl rfl rfl
    have x5 := hk.world.still hx5 (fun ⟨_, h⟩ => h.elim And.right And.right)
    have x6 := hk.world.still hx6 (fun ⟨_, h⟩ => h.elim And.right And.right)
    have x11 := hk.world.still hx11 (fun ⟨_, h⟩ => h.elim And.right And.right)
    have hfx : ∀ k, k < B → w.heap[k]? = w0.heap[k]? := fun k hk' => hk.fix k ((fun k hk' => est2_fix (Nat.lt_of_lt_of_le hk' hB) (fun e => e.elim) (fun e => e.elim)) k hk')
    have hsz := hk.world.size
    have y5 := hin5.same (w' := w) (fun k hk' _ => hfx k hk')
    have y6 := hin6.same (w' := w) (fun k hk' _ => hfx k hk')
    have y11 := hin11.same (w' := w) (fun k hk' _ => hfx k hk')
    exact obE_callV #[] rfl rfl rfl rfl rfl (wanted_of rfl rfl rfl e103) (awake_calls w)
  · refine ⟨⟨fun τ => stableE_det _, leans_not⟩, ?_⟩
    intro a w O hk
    have e103 : a.eval (.tmp 103) = .bool true := hk.fact 25 _ 103 rfl rfl rfl rfl
    have e104 : a.eval (.tmp 104) = .bool true := hk.fact 26 _ 104 rfl rfl rfl rfl
    exact toE (ob_pick rfl e103 e104 (wanted_none rfl) rfl)
  · refine ⟨⟨fun τ => stableE_det _, leans_not⟩, ?_⟩
    intro a w O hk
    have e105 : a.eval (.tmp 105) = .bool true := hk.fact 27 _ 105 rfl rfl rfl rfl
    exact toE (ob_assign rfl e105 (wanted_none rfl) rfl)
set_option maxRecDepth 100000 in
set_option maxHeartbeats 8000000 in
theorem tk10l_region {Q : Exit → Act → World → Prop} {id : Nat} (w0 : World) (B : Nat) (ga : Nat) (pa : Pl) (ta : Tm) (gb : Nat) (pb : Pl) (tb : Tm) (gx : Nat) (px : Pl) (tx : Tm) (n sa sb la : Int) {s0 s1 s2 s3 s4 s7 s8 s9 s10 s13 s14 s15 s16 s17 s18 s19 s20 s21 s22 s23 s24 s25 s26 s27 s28 s29 s30 s31 s32 s33 s34 s35 s36 s37 s38 s39 s40 s41 s42 s43 s44 s45 s46 s47 s48 s49 s50 s51 s52 s53 s54 s55 s56 s57 s58 s59 s60 s61 s62 s63 s64 s65 s66 s67 s68 s69 s70 s71 s72 s73 s74 s75 s76 s77 s78 s79 s80 s81 s82 s83 s84 s85 s86 s87 s88 s89 s90 s91 s92 s93 s94 s95 s96 s97 s98 s99 s100 s101 s102 s103 s104 s105 : Value} (hB : B ≤ w0.heap.size) (hx5 : w0.heap[ga]? = some (tmO pa ta)) (hin5 : TmIn w0 B pa ta) (hx6 : w0.heap[gb]? = some (tmO pb tb)) (hin6 : TmIn w0 B pb tb) (hx11 : w0.heap[gx]? = some (tmO px tx)) (hin11 : TmIn w0 B px tx) (ha : (measP ta).1 = sa) (hb : (measP tb).1 = sb) (hx : (measP tx).1 = sa + n * (sb - 1)) (hla : LooseT ta = la) (hr : 0 ≤ sa ∧ sa ≤ 400 ∧ 0 ≤ sb ∧ sb ≤ 400) (hmr : -9223372036854775808 ≤ n * (sb - 1) ∧ n * (sb - 1) ≤ 9223372036854775807) (hm2 : -1000000 ≤ n * (sb - 1) ∧ n * (sb - 1) ≤ 1000000) (hw : 1 < la)
    (hend : ∀ (w' : World), Chg (fun k => False ∨ False) w0 w' → Q .normal { tmps := (s0 :: s1 :: s2 :: s3 :: s4 :: (.pointer (some ⟨ga, 0, none⟩)) :: (.pointer (some ⟨gb, 0, none⟩)) :: s7 :: s8 :: s9 :: (.bool true) :: (.pointer (some ⟨gx, 0, none⟩)) :: (.int .i64 n) :: s13 :: s14 :: s15 :: s16 :: s17 :: s18 :: s19 :: s20 :: s21 :: s22 :: s23 :: s24 :: s25 :: s26 :: s27 :: s28 :: s29 :: s30 :: s31 :: s32 :: s33 :: s34 :: s35 :: s36 :: s37 :: s38 :: s39 :: s40 :: s41 :: s42 :: s43 :: s44 :: s45 :: s46 :: s47 :: s48 :: s49 :: s50 :: s51 :: s52 :: s53 :: s54 :: s55 :: s56 :: s57 :: s58 :: s59 :: s60 :: s61 :: s62 :: s63 :: s64 :: s65 :: s66 :: s67 :: s68 :: s69 :: s70 :: s71 :: s72 :: s73 :: s74 :: s75 :: s76 :: s77 :: (tmV px tx) :: (.int .i64 (sa + n * (sb - 1))) :: (tmV pa ta) :: (.int .i64 sa) :: (.int .i64 n) :: (tmV pb tb) :: (.int .i64 sb) :: (.int .i64 (sb - 1)) :: (.int .i64 (n * (sb - 1))) :: (.int .i64 (sa + n * (sb - 1))) :: (.bool true) :: (.bool true) :: (tmV pa ta) :: (.int .i64 la) :: (.bool true) :: (.bool true) :: undef :: undef :: (.bool true) :: (.bool true) :: undef :: undef :: undef :: (.bool true) :: (.bool true) :: (.bool true) :: (.bool true) :: (.bool true) :: [] : List Value).toArray, defers := [] } w') :
    (Code.region id tk10l_ops.toArray true).wp Try.prog Q { tmps := (s0 :: s1 :: s2 :: s3 :: s4 :: (.pointer (some ⟨ga, 0, none⟩)) :: (.pointer (some ⟨gb, 0, none⟩)) :: s7 :: s8 :: s9 :: s10 :: (.pointer (some ⟨gx, 0, none⟩)) :: (.int .i64 n) :: s13 :: s14 :: s15 :: s16 :: s17 :: s18 :: s19 :: s20 :: s21 :: s22 :: s23 :: s24 :: s25 :: s26 :: s27 :: s28 :: s29 :: s30 :: s31 :: s32 :: s33 :: s34 :: s35 :: s36 :: s37 :: s38 :: s39 :: s40 :: s41 :: s42 :: s43 :: s44 :: s45 :: s46 :: s47 :: s48 :: s49 :: s50 :: s51 :: s52 :: s53 :: s54 :: s55 :: s56 :: s57 :: s58 :: s59 :: s60 :: s61 :: s62 :: s63 :: s64 :: s65 :: s66 :: s67 :: s68 :: s69 :: s70 :: s71 :: s72 :: s73 :: s74 :: s75 :: s76 :: s77 :: s78 :: s79 :: s80 :: s81 :: s82 :: s83 :: s84 :: s85 :: s86 :: s87 :: s88 :: s89 :: s90 :: s91 :: s92 :: s93 :: s94 :: s95 :: s96 :: s97 :: s98 :: s99 :: s100 :: s101 :: s102 :: s103 :: s104 :: s105 :: [] : List Value).toArray, defers := [] } w0 := by
  refine wp_region_est (by kernel_rfl) (est2 0 0 (fun _ => False) (fun _ => False)) tk10l_C (tk10l_F w0 B ga pa ta gb pb tb gx px tx n sa sb la) (est2_dis (fun _ h _ => h)) (est2_range (fun _ h => h.elim) (fun _ h => h.elim)) (by rfl) (by kernel_rfl) (tk10l_obs w0.drew B ga pa ta gb pb tb gx px tx n sa sb la hB hx5 (TmS.same hin5 (fun _ _ _ => rfl)) hx6 (TmS.same hin6 (fun _ _ _ => rfl)) hx11 (TmS.same hin11 (fun _ _ _ => rfl)) ha hb hx hla hr hmr hm2 hw _ _ rfl rfl rfl rfl) ?_
  intro a w' O hd hs hb hf hf2 ha hsame
  have hl := slots_eq (ops := tk10l_ops.toArray) [(10, .bool true), (78, tmV px tx), (79, .int .i64 (sa + n * (sb - 1))), (80, tmV pa ta), (81, .int .i64 sa), (82, .int .i64 n), (83, tmV pb tb), (84, .int .i64 sb), (85, .int .i64 (sb - 1)), (86, .int .i64 (n * (sb - 1))), (87, .int .i64 (sa + n * (sb - 1))), (88, .bool true), (89, .bool true), (90, tmV pa ta), (91, .int .i64 la), (92, .bool true), (93, .bool true), (94, undef), (95, undef), (96, .bool true), (97, .bool true), (98, undef), (99, undef), (100, undef), (101, .bool true), (102, .bool true), (103, .bool true), (104, .bool true), (105, .bool true)] (show a.tmps.size = 106 from hs) (fun i h => hsame i h) ⟨(hf 28 _ 10 rfl rfl (by decide)).1, (hf 0 _ 78 rfl rfl (by decide)).1, (hf 1 _ 79 rfl rfl (by decide)).1, (hf 2 _ 80 rfl rfl (by decide)).1, (hf 3 _ 81 rfl rfl (by decide)).1, (hf 4 _ 82 rfl rfl (by decide)).1, (hf 5 _ 83 rfl rfl (by decide)).1, (hf 6 _ 84 rfl rfl (by decide)).1, (hf 7 _ 85 rfl rfl (by decide)).1, (hf 8 _ 86 rfl rfl (by decide)).1, (hf 9 _ 87 rfl rfl (by decide)).1, (hf 10 _ 88 rfl rfl (by decide)).1, (hf 11 _ 89 rfl rfl (by decide)).1, (hf 12 _ 90 rfl rfl (by decide)).1, (hf 13 _ 91 rfl rfl (by decide)).1, (hf 14 _ 92 rfl rfl (by decide)).1, (hf 15 _ 93 rfl rfl (by decide)).1, (hf 16 _ 94 rfl rfl (by decide)).1, (hf 17 _ 95 rfl rfl (by decide)).1, (hf 18 _ 96 rfl rfl (by decide)).1, (hf 19 _ 97 rfl rfl (by decide)).1, (hf 20 _ 98 rfl rfl (by decide)).1, (hf 21 _ 99 rfl rfl (by decide)).1, (hf 22 _ 100 rfl rfl (by decide)).1, (hf 23 _ 101 rfl rfl (by decide)).1, (hf 24 _ 102 rfl rfl (by decide)).1, (hf 25 _ 103 rfl rfl (by decide)).1, (hf 26 _ 104 rfl rfl (by decide)).1, (hf 27 _ 105 rfl rfl (by decide)).1, trivial⟩ (by kernel_rfl)
  obtain ⟨tmps, defers⟩ := a
  obtain rfl : defers = [] := hd
  have hl' : tmps = _ := hl
  rw [hl']
  have hb' := est2_chg hb
  refine Eq.mp ?_ (hend w' ⟨hb'.os, hb'.tape, hb'.output, hb'.size, hb'.block⟩)
  kernel_rfl

def tk10p_F (w0 : World) (B : Nat) (ga : Nat) (pa : Pl) (ta : Tm) (gb : Nat) (pb : Pl) (tb : Tm) (gx : Nat) (px : Pl) (tx : Tm) (n sa sb la : Int) : Nat → (Nat → Value) → Value → World → (Nat → Prop) → Prop := fun rix => match rix with
  | 0 => fun _ v _ _ => v = tmV px tx
  | 1 => fun _ v _ _ => v = .int .i64 (sa + n * (sb - 1))
  | 2 => fun _ v _ _ => v = tmV pa ta
  | 3 => fun _ v _ _ => v = .int .i64 sa
  | 4 => fun _ v _ _ => v = .int .i64 n
  | 5 => fun _ v _ _ => v = tmV pb tb
  | 6 => fun _ v _ _ => v = .int .i64 sb
  | 7 => fun _ v _ _ => v = .int .i64 (sb - 1)
  | 8 => fun _ v _ _ => v = .int .i64 (n * (sb - 1))
  | 9 => fun _ v _ _ => v = .int .i64 (sa + n * (sb - 1))
  | 10 => fun _ v _ _ => v = .bool true
  | 11 => fun _ v _ _ => v = .bool true
  | 12 => fun _ v _ _ => v = tmV pa ta
  | 13 => fun _ v _ _ => v = .int .i64 la
  | 14 => fun _ v _ _ => v = .bool false
  | 15 => fun _ v _ _ => v = .bool false
  | 16 => fun _ v _ _ => v = .int .i64 n
  | 17 => fun _ v _ _ => v = .bool true
  | 18 => fun _ v _ _ => v = .bool true
  | 19 => fun _ v _ _ => v = .bool true
  | 20 => fun _ v _ _ => v = undef
  | 21 => fun _ v _ _ => v = undef
  | 22 => fun _ v _ _ => v = undef
  | 23 => fun _ v _ _ => v = .bool true
  | 24 => fun _ v _ _ => v = .bool true
  | 25 => fun _ v _ _ => v = .bool true
  | 26 => fun _ v _ _ => v = .bool true
  | 27 => fun _ v _ _ => v = .bool true
  | 28 => fun _ v _ _ => v = .bool true
  | _ => fun _ _ _ _ => True
def tk10p_C : Nat → List Nat := fun rix => match rix with
  | _ => []
theorem tk10p_nw5 : nwB tk10l_ops.toArray 5 = true := by kernel_rfl
theorem tk10p_nw6 : nwB tk10l_ops.toArray 6 = true := by kernel_rfl
theorem tk10p_nw11 : nwB tk10l_ops.toArray 11 = true := by kernel_rfl
theorem tk10p_nw12 : nwB tk10l_ops.toArray 12 = true := by kernel_rfl
set_option maxRecDepth 100000 in
set_option maxHeartbeats 8000000 in
theorem tk10p_obs (w0 : World) (B : Nat) (ga : Nat) (pa : Pl) (ta : Tm) (gb : Nat) (pb : Pl) (tb : Tm) (gx : Nat) (px : Pl) (tx : Tm) (n sa sb la : Int) (hB : B ≤ w0.heap.size) (hx5 : w0.heap[ga]? = some (tmO pa ta)) (hin5 : TmIn w0 B pa ta) (hx6 : w0.heap[gb]? = some (tmO pb tb)) (hin6 : TmIn w0 B pb tb) (hx11 : w0.heap[gx]? = some (tmO px tx)) (hin11 : TmIn w0 B px tx) (ha : (measP ta).1 = sa) (hb : (measP tb).1 = sb) (hx : (measP tx).1 = sa + n * (sb - 1)) (hla : LooseT ta = la) (hr : 0 ≤ sa ∧ sa ≤ 400 ∧ 0 ≤ sb ∧ sb ≤ 400) (hmr : -9223372036854775808 ≤ n * (sb - 1) ∧ n * (sb - 1) ≤ 9223372036854775807) (hm2 : -1000000 ≤ n * (sb - 1) ∧ n * (sb - 1) ≤ 1000000) (hw : ¬ 1 < la) (hn : 0 < n) (Q : Exit → Act → World → Prop) (a0 : Act) (hi5 : a0.tmps.getD 5 undef = .pointer (some ⟨ga, 0, none⟩)) (hi6 : a0.tmps.getD 6 undef = .pointer (some ⟨gb, 0, none⟩)) (hi11 : a0.tmps.getD 11 undef = .pointer (some ⟨gx, 0, none⟩)) (hi12 : a0.tmps.getD 12 undef = .int .i64 n) :
    ObsE Try.prog tk10l_ops.toArray Q (est2 0 0 (fun _ => False) (fun _ => False)) tk10p_C (tk10p_F w0 B ga pa ta gb pb tb gx px tx n sa sb la) a0 w0 tk10l_ops.toArray.toList 0 := by
  have nw5 := tk10p_nw5
  have nw6 := tk10p_nw6
  have nw11 := tk10p_nw11
  have nw12 := tk10p_nw12
  refine ⟨?_, ?_, ?_, ?_, ?_, ?_, ?_, ?_, ?_, ?_, ?_, ?_, ?_, ?_, ?_, ?_, ?_, ?_, ?_, ?_, ?_, ?_, ?_, ?_, ?_, ?_, ?_, ?_, ?_, trivial⟩
  · refine ⟨⟨fun τ => stableE_det _, leans_not⟩, ?_⟩
    intro a w O hk
    have e11 : a.eval (.tmp 11) = .pointer (some ⟨gx, 0, none⟩) := (hk.init 11 (initialB_of_nw nw11)).trans hi11
    have x5 := hk.world.still hx5 (fun ⟨_, h⟩ => h.elim And.right And.right)
    have x6 := hk.world.still hx6 (fun ⟨_, h⟩ => h.elim And.right And.right)
    have x11 := hk.world.still hx11 (fun ⟨_, h⟩ => h.elim And.right And.right)
    have hfx : ∀ k, k < B → w.heap[k]? = w0.heap[k]? := fun k hk' => hk.fix k ((fun k hk' => est2_fix (Nat.lt_of_lt_of_le hk' hB) (fun e => e.elim) (fun e => e.elim)) k hk')
    have hsz := hk.world.size
    have y5 := hin5.same (w' := w) (fun k hk' _ => hfx k hk')
    have y6 := hin6.same (w' := w) (fun k hk' _ => hfx k hk')
    have y11 := hin11.same (w' := w) (fun k hk' _ => hfx k hk')
    exact obE_loadRow rfl e11 x11 Try.underlying28 rfl (by kernel_rfl) (wanted_none rfl) rfl
  · refine ⟨⟨fun τ => stableE_det _, leans_not⟩, ?_⟩
    intro a w O hk
    have e78 : a.eval (.tmp 78) = tmV px tx := hk.fact 0 _ 78 rfl rfl rfl rfl
    have x5 := hk.world.still hx5 (fun ⟨_, h⟩ => h.elim And.right And.right)
    have x6 := hk.world.still hx6 (fun ⟨_, h⟩ => h.elim And.right And.right)
    have x11 := hk.world.still hx11 (fun ⟨_, h⟩ => h.elim And.right And.right)
    have hfx : ∀ k, k < B → w.heap[k]? = w0.heap[k]? := fun k hk' => hk.fix k ((fun k hk' => est2_fix (Nat.lt_of_lt_of_le hk' hB) (fun e => e.elim) (fun e => e.elim)) k hk')
    have hsz := hk.world.size
    have y5 := hin5.same (w' := w) (fun k hk' _ => hfx k hk')
    have y6 := hin6.same (w' := w) (fun k hk' _ => hfx k hk')
    have y11 := hin11.same (w' := w) (fun k hk' _ => hfx k hk')
    exact obE_callV #[tmV px tx] rfl rfl rfl rfl (by simp only [List.map_cons, List.map_nil]; rw [e78]; try rfl) (wanted_none rfl) ((size_calls tx px w (TmIn.mono y11 (Nat.le_trans hB hsz))).mono fun e w' h => ⟨by rw [h.1, hx], h.2⟩)
  · refine ⟨⟨fun τ => stableE_det _, leans_not⟩, ?_⟩
    intro a w O hk
    have e5 : a.eval (.tmp 5) = .pointer (some ⟨ga, 0, none⟩) := (hk.init 5 (initialB_of_nw nw5)).trans hi5
    have x5 := hk.world.still hx5 (fun ⟨_, h⟩ => h.elim And.right And.right)
    have x6 := hk.world.still hx6 (fun ⟨_, h⟩ => h.elim And.right And.right)
    have x11 := hk.world.still hx11 (fun ⟨_, h⟩ => h.elim And.right And.right)
    have hfx : ∀ k, k < B → w.heap[k]? = w0.heap[k]? := fun k hk' => hk.fix k ((fun k hk' => est2_fix (Nat.lt_of_lt_of_le hk' hB) (fun e => e.elim) (fun e => e.elim)) k hk')
    have hsz := hk.world.size
    have y5 := hin5.same (w' := w) (fun k hk' _ => hfx k hk')
    have y6 := hin6.same (w' := w) (fun k hk' _ => hfx k hk')
    have y11 := hin11.same (w' := w) (fun k hk' _ => hfx k hk')
    exact obE_loadRow rfl e5 x5 Try.underlying28 rfl (by kernel_rfl) (wanted_none rfl) rfl
  · refine ⟨⟨fun τ => stableE_det _, leans_not⟩, ?_⟩
    intro a w O hk
    have e80 : a.eval (.tmp 80) = tmV pa ta := hk.fact 2 _ 80 rfl rfl rfl rfl
    have x5 := hk.world.still hx5 (fun ⟨_, h⟩ => h.elim And.right And.right)
    have x6 := hk.world.still hx6 (fun ⟨_, h⟩ => h.elim And.right And.right)
    have x11 := hk.world.still hx11 (fun ⟨_, h⟩ => h.elim And.right And.right)
    have hfx : ∀ k, k < B → w.heap[k]? = w0.heap[k]? := fun k hk' => hk.fix k ((fun k hk' => est2_fix (Nat.lt_of_lt_of_le hk' hB) (fun e => e.elim) (fun e => e.elim)) k hk')
    have hsz := hk.world.size
    have y5 := hin5.same (w' := w) (fun k hk' _ => hfx k hk')
    have y6 := hin6.same (w' := w) (fun k hk' _ => hfx k hk')
    have y11 := hin11.same (w' := w) (fun k hk' _ => hfx k hk')
    exact obE_callV #[tmV pa ta] rfl rfl rfl rfl (by simp only [List.map_cons, List.map_nil]; rw [e80]; try rfl) (wanted_none rfl) ((size_calls ta pa w (TmIn.mono y5 (Nat.le_trans hB hsz))).mono fun e w' h => ⟨by rw [h.1, ha], h.2⟩)
  · refine ⟨⟨fun τ => stableE_det _, leans_not⟩, ?_⟩
    intro a w O hk
    have e12 : a.eval (.tmp 12) = .int .i64 n := (hk.init 12 (initialB_of_nw nw12)).trans hi12
    exact toE (ob_move rfl e12 (wanted_none rfl) rfl)
  · refine ⟨⟨fun τ => stableE_det _, leans_not⟩, ?_⟩
    intro a w O hk
    have e6 : a.eval (.tmp 6) = .pointer (some ⟨gb, 0, none⟩) := (hk.init 6 (initialB_of_nw nw6)).trans hi6
    have x5 := hk.world.still hx5 (fun ⟨_, h⟩ => h.elim And.right And.right)
    have x6 := hk.world.still hx6 (fun ⟨_, h⟩ => h.elim And.right And.right)
    have x11 := hk.world.still hx11 (fun ⟨_, h⟩ => h.elim And.right And.right)
    have hfx : ∀ k, k < B → w.heap[k]? = w0.heap[k]? := fun k hk' => hk.fix k ((fun k hk' => est2_fix (Nat.lt_of_lt_of_le hk' hB) (fun e => e.elim) (fun e => e.elim)) k hk')
    have hsz := hk.world.size
    have y5 := hin5.same (w' := w) (fun k hk' _ => hfx k hk')
    have y6 := hin6.same (w' := w) (fun k hk' _ => hfx k hk')
    have y11 := hin11.same (w' := w) (fun k hk' _ => hfx k hk')
    exact obE_loadRow rfl e6 x6 Try.underlying28 rfl (by kernel_rfl) (wanted_none rfl) rfl
  · refine ⟨⟨fun τ => stableE_det _, leans_not⟩, ?_⟩
    intro a w O hk
    have e83 : a.eval (.tmp 83) = tmV pb tb := hk.fact 5 _ 83 rfl rfl rfl rfl
    have x5 := hk.world.still hx5 (fun ⟨_, h⟩ => h.elim And.right And.right)
    have x6 := hk.world.still hx6 (fun ⟨_, h⟩ => h.elim And.right And.right)
    have x11 := hk.world.still hx11 (fun ⟨_, h⟩ => h.elim And.right And.right)
    have hfx : ∀ k, k < B → w.heap[k]? = w0.heap[k]? := fun k hk' => hk.fix k ((fun k hk' => est2_fix (Nat.lt_of_lt_of_le hk' hB) (fun e => e.elim) (fun e => e.elim)) k hk')
    have hsz := hk.world.size
    have y5 := hin5.same (w' := w) (fun k hk' _ => hfx k hk')
    have y6 := hin6.same (w' := w) (fun k hk' _ => hfx k hk')
    have y11 := hin11.same (w' := w) (fun k hk' _ => hfx k hk')
    exact obE_callV #[tmV pb tb] rfl rfl rfl rfl (by simp only [List.map_cons, List.map_nil]; rw [e83]; try rfl) (wanted_none rfl) ((size_calls tb pb w (TmIn.mono y6 (Nat.le_trans hB hsz))).mono fun e w' h => ⟨by rw [h.1, hb], h.2⟩)
  · refine ⟨⟨fun τ => stableE_det _, leans_not⟩, ?_⟩
    intro a w O hk
    have e84 : a.eval (.tmp 84) = .int .i64 sb := hk.fact 6 _ 84 rfl rfl rfl rfl
    have x5 := hk.world.still hx5 (fun ⟨_, h⟩ => h.elim And.right And.right)
    have x6 := hk.world.still hx6 (fun ⟨_, h⟩ => h.elim And.right And.right)
    have x11 := hk.world.still hx11 (fun ⟨_, h⟩ => h.elim And.right And.right)
    have hfx : ∀ k, k < B → w.heap[k]? = w0.heap[k]? := fun k hk' => hk.fix k ((fun k hk' => est2_fix (Nat.lt_of_lt_of_le hk' hB) (fun e => e.elim) (fun e => e.elim)) k hk')
    have hsz := hk.world.size
    have y5 := hin5.same (w' := w) (fun k hk' _ => hfx k hk')
    have y6 := hin6.same (w' := w) (fun k hk' _ => hfx k hk')
    have y11 := hin11.same (w' := w) (fun k hk' _ => hfx k hk')
    have hw9 : IntKind.i64.wrap (sb - 1) = sb - 1 := IntWalk.i64_in _ (by omega)
    exact obE_run (wanted_none rfl) (by unfold execOp; simp only []; rw [e84]; go_simp) rfl
  · refine ⟨⟨fun τ => stableE_det _, leans_not⟩, ?_⟩
    intro a w O hk
    have e82 : a.eval (.tmp 82) = .int .i64 n := hk.fact 4 _ 82 rfl rfl rfl rfl
    have e85 : a.eval (.tmp 85) = .int .i64 (sb - 1) := hk.fact 7 _ 85 rfl rfl rfl rfl
    have x5 := hk.world.still hx5 (fun ⟨_, h⟩ => h.elim And.right And.right)
    have x6 := hk.world.still hx6 (fun ⟨_, h⟩ => h.elim And.right And.right)
    have x11 := hk.world.still hx11 (fun ⟨_, h⟩ => h.elim And.right And.right)
    have hfx : ∀ k, k < B → w.heap[k]? = w0.heap[k]? := fun k hk' => hk.fix k ((fun k hk' => est2_fix (Nat.lt_of_lt_of_le hk' hB) (fun e => e.elim) (fun e => e.elim)) k hk')
    have hsz := hk.world.size
    have y5 := hin5.same (w' := w) (fun k hk' _ => hfx k hk')
    have y6 := hin6.same (w' := w) (fun k hk' _ => hfx k hk')
    have y11 := hin11.same (w' := w) (fun k hk' _ => hfx k hk')
    have hw9 : IntKind.i64.wrap (n * (sb - 1)) = n * (sb - 1) := IntWalk.i64_in _ hmr
    exact obE_run (wanted_none rfl) (by unfold execOp; simp only []; rw [e82, e85]; go_simp) rfl
  · refine ⟨⟨fun τ => stableE_det _, leans_not⟩, ?_⟩
    intro a w O hk
    have e81 : a.eval (.tmp 81) = .int .i64 sa := hk.fact 3 _ 81 rfl rfl rfl rfl
    have e86 : a.eval (.tmp 86) = .int .i64 (n * (sb - 1)) := hk.fact 8 _ 86 rfl rfl rfl rfl
    have x5 := hk.world.still hx5 (fun ⟨_, h⟩ => h.elim And.right And.right)
    have x6 := hk.world.still hx6 (fun ⟨_, h⟩ => h.elim And.right And.right)
    have x11 := hk.world.still hx11 (fun ⟨_, h⟩ => h.elim And.right And.right)
    have hfx : ∀ k, k < B → w.heap[k]? = w0.heap[k]? := fun k hk' => hk.fix k ((fun k hk' => est2_fix (Nat.lt_of_lt_of_le hk' hB) (fun e => e.elim) (fun e => e.elim)) k hk')
    have hsz := hk.world.size
    have y5 := hin5.same (w' := w) (fun k hk' _ => hfx k hk')
    have y6 := hin6.same (w' := w) (fun k hk' _ => hfx k hk')
    have y11 := hin11.same (w' := w) (fun k hk' _ => hfx k hk')
    have hw9 : IntKind.i64.wrap (sa + n * (sb - 1)) = sa + n * (sb - 1) := IntWalk.i64_in _ (by omega)
    exact obE_run (wanted_none rfl) (by unfold execOp; simp only []; rw [e81, e86]; go_simp) rfl
  · refine ⟨⟨fun τ => stableE_det _, leans_not⟩, ?_⟩
    intro a w O hk
    have e79 : a.eval (.tmp 79) = .int .i64 (sa + n * (sb - 1)) := hk.fact 1 _ 79 rfl rfl rfl rfl
    have e87 : a.eval (.tmp 87) = .int .i64 (sa + n * (sb - 1)) := hk.fact 9 _ 87 rfl rfl rfl rfl
    exact toE (ob_eqlInt true rfl e79 e87 (by simp) (wanted_none rfl) rfl)
  · refine ⟨⟨fun τ => stableE_det _, leans_not⟩, ?_⟩
    intro a w O hk
    have e88 : a.eval (.tmp 88) = .bool true := hk.fact 10 _ 88 rfl rfl rfl rfl
    exact toE (ob_move rfl e88 (wanted_none rfl) rfl)
  · refine ⟨⟨fun τ => stableE_det _, leans_not⟩, ?_⟩
    intro a w O hk
    have e5 : a.eval (.tmp 5) = .pointer (some ⟨ga, 0, none⟩) := (hk.init 5 (initialB_of_nw nw5)).trans hi5
    have e89 : a.eval (.tmp 89) = .bool true := hk.fact 11 _ 89 rfl rfl rfl rfl
    have x5 := hk.world.still hx5 (fun ⟨_, h⟩ => h.elim And.right And.right)
    have x6 := hk.world.still hx6 (fun ⟨_, h⟩ => h.elim And.right And.right)
    have x11 := hk.world.still hx11 (fun ⟨_, h⟩ => h.elim And.right And.right)
    have hfx : ∀ k, k < B → w.heap[k]? = w0.heap[k]? := fun k hk' => hk.fix k ((fun k hk' => est2_fix (Nat.lt_of_lt_of_le hk' hB) (fun e => e.elim) (fun e => e.elim)) k hk')
    have hsz := hk.world.size
    have y5 := hin5.same (w' := w) (fun k hk' _ => hfx k hk')
    have y6 := hin6.same (w' := w) (fun k hk' _ => hfx k hk')
    have y11 := hin11.same (w' := w) (fun k hk' _ => hfx k hk')
    exact obE_loadRow rfl e5 x5 Try.underlying28 rfl (by kernel_rfl) (wanted_of rfl rfl rfl e89) rfl
  · refine ⟨⟨fun τ => stableE_det _, leans_not⟩, ?_⟩
    intro a w O hk
    have e90 : a.eval (.tmp 90) = tmV pa ta := hk.fact 12 _ 90 rfl rfl rfl rfl
    have e89 : a.eval (.tmp 89) = .bool true := hk.fact 11 _ 89 rfl rfl rfl rfl
    have x5 := hk.world.still hx5 (fun ⟨_, h⟩ => h.elim And.right And.right)
    have x6 := hk.world.still hx6 (fun ⟨_, h⟩ => h.elim And.right And.right)
    have x11 := hk.world.still hx11 (fun ⟨_, h⟩ => h.elim And.right And.right)
    have hfx : ∀ k, k < B → w.heap[k]? = w0.heap[k]? := fun k hk' => hk.fix k ((fun k hk' => est2_fix (Nat.lt_of_lt_of_le hk' hB) (fun e => e.elim) (fun e => e.elim)) k hk')
    have hsz := hk.world.size
    have y5 := hin5.same (w' := w) (fun k hk' _ => hfx k hk')
    have y6 := hin6.same (w' := w) (fun k hk' _ => hfx k hk')
    have y11 := hin11.same (w' := w) (fun k hk' _ => hfx k hk')
    exact obE_callV #[tmV pa ta] rfl rfl rfl rfl (by simp only [List.map_cons, List.map_nil]; rw [e90]; try rfl) (wanted_of rfl rfl rfl e89) ((loose_calls ta pa w (TmIn.mono y5 (Nat.le_trans hB hsz))).mono fun e w' h => ⟨by rw [h.1, hla], h.2⟩)
  · refine ⟨⟨fun τ => stableE_det _, leans_not⟩, ?_⟩
    intro a w O hk
    have e91 : a.eval (.tmp 91) = .int .i64 la := hk.fact 13 _ 91 rfl rfl rfl rfl
    have e89 : a.eval (.tmp 89) = .bool true := hk.fact 11 _ 89 rfl rfl rfl rfl
    have x5 := hk.world.still hx5 (fun ⟨_, h⟩ => h.elim And.right And.right)
    have x6 := hk.world.still hx6 (fun ⟨_, h⟩ => h.elim And.right And.right)
    have x11 := hk.world.still hx11 (fun ⟨_, h⟩ => h.elim And.right And.right)
    have hfx : ∀ k, k < B → w.heap[k]? = w0.heap[k]? := fun k hk' => hk.fix k ((fun k hk' => est2_fix (Nat.lt_of_lt_of_le hk' hB) (fun e => e.elim) (fun e => e.elim)) k hk')
    have hsz := hk.world.size
    have y5 := hin5.same (w' := w) (fun k hk' _ => hfx k hk')
    have y6 := hin6.same (w' := w) (fun k hk' _ => hfx k hk')
    have y11 := hin11.same (w' := w) (fun k hk' _ => hfx k hk')
    exact obE_run (wanted_of rfl rfl rfl e89) (by unfold execOp; simp only []; rw [e91]; go_simp <;> (simp <;> omega)) rfl
  · refine ⟨⟨fun τ => stableE_det _, leans_not⟩, ?_⟩
    intro a w O hk
    have e92 : a.eval (.tmp 92) = .bool false := hk.fact 14 _ 92 rfl rfl rfl rfl
    have e89 : a.eval (.tmp 89) = .bool true := hk.fact 11 _ 89 rfl rfl rfl rfl
    exact toE (ob_move rfl e92 (wanted_of rfl rfl rfl e89) rfl)
  · refine ⟨⟨fun τ => stableE_det _, leans_not⟩, ?_⟩
    intro a w O hk
    have e12 : a.eval (.tmp 12) = .int .i64 n := (hk.init 12 (initialB_of_nw nw12)).trans hi12
    have e93 : a.eval (.tmp 93) = .bool false := hk.fact 15 _ 93 rfl rfl rfl rfl
    exact toE (ob_move rfl e12 (wanted_of rfl rfl rfl e93) rfl)
  · refine ⟨⟨fun τ => stableE_det _, leans_not⟩, ?_⟩
    intro a w O hk
    have e94 : a.eval (.tmp 94) = .int .i64 n := hk.fact 16 _ 94 rfl rfl rfl rfl
    have e93 : a.eval (.tmp 93) = .bool false := hk.fact 15 _ 93 rfl rfl rfl rfl
    have x5 := hk.world.still hx5 (fun ⟨_, h⟩ => h.elim And.right And.right)
    have x6 := hk.world.still hx6 (fun ⟨_, h⟩ => h.elim And.right And.right)
    have x11 := hk.world.still hx11 (fun ⟨_, h⟩ => h.elim And.right And.right)
    have hfx : ∀ k, k < B → w.heap[k]? = w0.heap[k]? := fun k hk' => hk.fix k ((fun k hk' => est2_fix (Nat.lt_of_lt_of_le hk' hB) (fun e => e.elim) (fun e => e.elim)) k hk')
    have hsz := hk.world.size
    have y5 := hin5.same (w' := w) (fun k hk' _ => hfx k hk')
    have y6 := hin6.same (w' := w) (fun k hk' _ => hfx k hk')
    have y11 := hin11.same (w' := w) (fun k hk' _ => hfx k hk')
    exact obE_run (wanted_of rfl rfl rfl e93) (by unfold execOp; simp only []; rw [e94]; go_simp <;> (simp <;> omega)) rfl
  · refine ⟨⟨fun τ => stableE_det _, leans_not⟩, ?_⟩
    intro a w O hk
    have e93 : a.eval (.tmp 93) = .bool false := hk.fact 15 _ 93 rfl rfl rfl rfl
    have e95 : a.eval (.tmp 95) = .bool true := hk.fact 17 _ 95 rfl rfl rfl rfl
    have e89 : a.eval (.tmp 89) = .bool true := hk.fact 11 _ 89 rfl rfl rfl rfl
    exact toE (ob_pick rfl e93 e95 (wanted_of rfl rfl rfl e89) rfl)
  · refine ⟨⟨fun τ => stableE_det _, leans_not⟩, ?_⟩
    intro a w O hk
    have e96 : a.eval (.tmp 96) = .bool true := hk.fact 18 _ 96 rfl rfl rfl rfl
    have e89 : a.eval (.tmp 89) = .bool true := hk.fact 11 _ 89 rfl rfl rfl rfl
    exact toE (ob_move rfl e96 (wanted_of rfl rfl rfl e89) rfl)
  · refine ⟨⟨fun τ => stableE_det _, leans_not⟩, ?_⟩
    intro a w O hk
    have e11 : a.eval (.tmp 11) = .pointer (some ⟨gx, 0, none⟩) := (hk.init 11 (initialB_of_nw nw11)).trans hi11
    have e97 : a.eval (.tmp 97) = .bool true := hk.fact 19 _ 97 rfl rfl rfl rfl
    exact toE (ob_skip (unwanted_of rfl rfl rfl e97 (by decide)) rfl)
  · refine ⟨⟨fun τ => stableE_det _, leans_not⟩, ?_⟩
    intro a w O hk
    have e98 : a.eval (.tmp 98) = undef := hk.fact 20 _ 98 rfl rfl rfl rfl
    have e97 : a.eval (.tmp 97) = .bool true := hk.fact 19 _ 97 rfl rfl rfl rfl
    exact toE (ob_skip (unwanted_of rfl rfl rfl e97 (by decide)) rfl)
  · refine ⟨⟨fun τ => stableE_det _, leans_not⟩, ?_⟩
    intro a w O hk
    have e99 : a.eval (.tmp 99) = undef := hk.fact 21 _ 99 rfl rfl rfl rfl
    have e97 : a.eval (.tmp 97) = .bool true := hk.fact 19 _ 97 rfl rfl rfl rfl
    exact toE (ob_skip (unwanted_of rfl rfl rfl e97 (by decide)) rfl)
  · refine ⟨⟨fun τ => stableE_det _, leans_not⟩, ?_⟩
    intro a w O hk
    have e97 : a.eval (.tmp 97) = .bool true := hk.fact 19 _ 97 rfl rfl rfl rfl
    have e100 : a.eval (.tmp 100) = undef := hk.fact 22 _ 100 rfl rfl rfl rfl
    have e89 : a.eval (.tmp 89) = .bool true := hk.fact 11 _ 89 rfl rfl rfl rfl
    exact toE (ob_pick rfl e97 rfl (wanted_of rfl rfl rfl e89) rfl)
  · refine ⟨⟨fun τ => stableE_det _, leans_not⟩, ?_⟩
    intro a w O hk
    have e89 : a.eval (.tmp 89) = .bool true := hk.fact 11 _ 89 rfl rfl rfl rfl
    have e101 : a.eval (.tmp 101) = .bool true := hk.fact 23 _ 101 rfl rfl rfl rfl
    exact toE (ob_pick rfl e89 e101 (wanted_none rfl) rfl)
  · refine ⟨⟨fun τ => stableE_det _, leans_not⟩, ?_⟩
    intro a w O hk
    have e102 : a.eval (.tmp 102) = .bool true := hk.fact 24 _ 102 rfl rfl rfl rfl
    exact toE (ob_move rfl e102 (wanted_none rfl) rfl)
  · refine ⟨⟨fun τ => stableE_det _, leans_not⟩, ?_⟩
    intro a w O hk
    have e103 : a.eval (.tmp 103) = .bool true := hk.fact 25 _ 103 rfl rfl rfl rfl
    have x5 := hk.world.still hx5 (fun ⟨_, h⟩ => h.elim And.right And.right)
    have x6 := hk.world.still hx6 (fun ⟨_, h⟩ => h.elim And.right And.right)
    have x11 := hk.world.still hx11 (fun ⟨_, h⟩ => h.elim And.right And.right)
    have hfx : ∀ k, k < B → w.heap[k]? = w0.heap[k]? := fun k hk' => hk.fix k ((fun k hk' => est2_fix (Nat.lt_of_lt_of_le hk' hB) (fun e => e.elim) (fun e => e.elim)) k hk')
    have hsz := hk.world.size
    have y5 := hin5.same (w' := w) (fun k hk' _ => hfx k hk')
    have y6 := hin6.same (w' := w) (fun k hk' _ => hfx k hk')
    have y11 := hin11.same (w' := w) (fun k hk' _ => hfx k hk')
    exact obE_callV #[] rfl rfl rfl rfl rfl (wanted_of rfl rfl rfl e103) (awake_calls w)
  · refine ⟨⟨fun τ => stableE_det _, leans_not⟩, ?_⟩
    intro a w O hk
    have e103 : a.eval (.tmp 103) = .bool true := hk.fact 25 _ 103 rfl rfl rfl rfl
    have e104 : a.eval (.tmp 104) = .bool true := hk.fact 26 _ 104 rfl rfl rfl rfl
    exact toE (ob_pick rfl e103 e104 (wanted_none rfl) rfl)
  · refine ⟨⟨fun τ => stableE_det _, leans_not⟩, ?_⟩
    intro a w O hk
    have e105 : a.eval (.tmp 105) = .bool true := hk.fact 27 _ 105 rfl rfl rfl rfl
    exact toE (ob_assign rfl e105 (wanted_none rfl) rfl)
set_option maxRecDepth 100000 in
set_option maxHeartbeats 8000000 in
theorem tk10p_region {Q : Exit → Act → World → Prop} {id : Nat} (w0 : World) (B : Nat) (ga : Nat) (pa : Pl) (ta : Tm) (gb : Nat) (pb : Pl) (tb : Tm) (gx : Nat) (px : Pl) (tx : Tm) (n sa sb la : Int) {s0 s1 s2 s3 s4 s7 s8 s9 s10 s13 s14 s15 s16 s17 s18 s19 s20 s21 s22 s23 s24 s25 s26 s27 s28 s29 s30 s31 s32 s33 s34 s35 s36 s37 s38 s39 s40 s41 s42 s43 s44 s45 s46 s47 s48 s49 s50 s51 s52 s53 s54 s55 s56 s57 s58 s59 s60 s61 s62 s63 s64 s65 s66 s67 s68 s69 s70 s71 s72 s73 s74 s75 s76 s77 s78 s79 s80 s81 s82 s83 s84 s85 s86 s87 s88 s89 s90 s91 s92 s93 s94 s95 s96 s97 s98 s99 s100 s101 s102 s103 s104 s105 : Value} (hB : B ≤ w0.heap.size) (hx5 : w0.heap[ga]? = some (tmO pa ta)) (hin5 : TmIn w0 B pa ta) (hx6 : w0.heap[gb]? = some (tmO pb tb)) (hin6 : TmIn w0 B pb tb) (hx11 : w0.heap[gx]? = some (tmO px tx)) (hin11 : TmIn w0 B px tx) (ha : (measP ta).1 = sa) (hb : (measP tb).1 = sb) (hx : (measP tx).1 = sa + n * (sb - 1)) (hla : LooseT ta = la) (hr : 0 ≤ sa ∧ sa ≤ 400 ∧ 0 ≤ sb ∧ sb ≤ 400) (hmr : -9223372036854775808 ≤ n * (sb - 1) ∧ n * (sb - 1) ≤ 9223372036854775807) (hm2 : -1000000 ≤ n * (sb - 1) ∧ n * (sb - 1) ≤ 1000000) (hw : ¬ 1 < la) (hn : 0 < n)
    (hend : ∀ (w' : World), Chg (fun k => False ∨ False) w0 w' → Q .normal { tmps := (s0 :: s1 :: s2 :: s3 :: s4 :: (.pointer (some ⟨ga, 0, none⟩)) :: (.pointer (some ⟨gb, 0, none⟩)) :: s7 :: s8 :: s9 :: (.bool true) :: (.pointer (some ⟨gx, 0, none⟩)) :: (.int .i64 n) :: s13 :: s14 :: s15 :: s16 :: s17 :: s18 :: s19 :: s20 :: s21 :: s22 :: s23 :: s24 :: s25 :: s26 :: s27 :: s28 :: s29 :: s30 :: s31 :: s32 :: s33 :: s34 :: s35 :: s36 :: s37 :: s38 :: s39 :: s40 :: s41 :: s42 :: s43 :: s44 :: s45 :: s46 :: s47 :: s48 :: s49 :: s50 :: s51 :: s52 :: s53 :: s54 :: s55 :: s56 :: s57 :: s58 :: s59 :: s60 :: s61 :: s62 :: s63 :: s64 :: s65 :: s66 :: s67 :: s68 :: s69 :: s70 :: s71 :: s72 :: s73 :: s74 :: s75 :: s76 :: s77 :: (tmV px tx) :: (.int .i64 (sa + n * (sb - 1))) :: (tmV pa ta) :: (.int .i64 sa) :: (.int .i64 n) :: (tmV pb tb) :: (.int .i64 sb) :: (.int .i64 (sb - 1)) :: (.int .i64 (n * (sb - 1))) :: (.int .i64 (sa + n * (sb - 1))) :: (.bool true) :: (.bool true) :: (tmV pa ta) :: (.int .i64 la) :: (.bool false) :: (.bool false) :: (.int .i64 n) :: (.bool true) :: (.bool true) :: (.bool true) :: undef :: undef :: undef :: (.bool true) :: (.bool true) :: (.bool true) :: (.bool true) :: (.bool true) :: [] : List Value).toArray, defers := [] } w') :
    (Code.region id tk10l_ops.toArray true).wp Try.prog Q { tmps := (s0 :: s1 :: s2 :: s3 :: s4 :: (.pointer (some ⟨ga, 0, none⟩)) :: (.pointer (some ⟨gb, 0, none⟩)) :: s7 :: s8 :: s9 :: s10 :: (.pointer (some ⟨gx, 0, none⟩)) :: (.int .i64 n) :: s13 :: s14 :: s15 :: s16 :: s17 :: s18 :: s19 :: s20 :: s21 :: s22 :: s23 :: s24 :: s25 :: s26 :: s27 :: s28 :: s29 :: s30 :: s31 :: s32 :: s33 :: s34 :: s35 :: s36 :: s37 :: s38 :: s39 :: s40 :: s41 :: s42 :: s43 :: s44 :: s45 :: s46 :: s47 :: s48 :: s49 :: s50 :: s51 :: s52 :: s53 :: s54 :: s55 :: s56 :: s57 :: s58 :: s59 :: s60 :: s61 :: s62 :: s63 :: s64 :: s65 :: s66 :: s67 :: s68 :: s69 :: s70 :: s71 :: s72 :: s73 :: s74 :: s75 :: s76 :: s77 :: s78 :: s79 :: s80 :: s81 :: s82 :: s83 :: s84 :: s85 :: s86 :: s87 :: s88 :: s89 :: s90 :: s91 :: s92 :: s93 :: s94 :: s95 :: s96 :: s97 :: s98 :: s99 :: s100 :: s101 :: s102 :: s103 :: s104 :: s105 :: [] : List Value).toArray, defers := [] } w0 := by
  refine wp_region_est (by kernel_rfl) (est2 0 0 (fun _ => False) (fun _ => False)) tk10p_C (tk10p_F w0 B ga pa ta gb pb tb gx px tx n sa sb la) (est2_dis (fun _ h _ => h)) (est2_range (fun _ h => h.elim) (fun _ h => h.elim)) (by rfl) (by kernel_rfl) (tk10p_obs w0.drew B ga pa ta gb pb tb gx px tx n sa sb la hB hx5 (TmS.same hin5 (fun _ _ _ => rfl)) hx6 (TmS.same hin6 (fun _ _ _ => rfl)) hx11 (TmS.same hin11 (fun _ _ _ => rfl)) ha hb hx hla hr hmr hm2 hw hn _ _ rfl rfl rfl rfl) ?_
  intro a w' O hd hs hb hf hf2 ha hsame
  have hl := slots_eq (ops := tk10l_ops.toArray) [(10, .bool true), (78, tmV px tx), (79, .int .i64 (sa + n * (sb - 1))), (80, tmV pa ta), (81, .int .i64 sa), (82, .int .i64 n), (83, tmV pb tb), (84, .int .i64 sb), (85, .int .i64 (sb - 1)), (86, .int .i64 (n * (sb - 1))), (87, .int .i64 (sa + n * (sb - 1))), (88, .bool true), (89, .bool true), (90, tmV pa ta), (91, .int .i64 la), (92, .bool false), (93, .bool false), (94, .int .i64 n), (95, .bool true), (96, .bool true), (97, .bool true), (98, undef), (99, undef), (100, undef), (101, .bool true), (102, .bool true), (103, .bool true), (104, .bool true), (105, .bool true)] (show a.tmps.size = 106 from hs) (fun i h => hsame i h) ⟨(hf 28 _ 10 rfl rfl (by decide)).1, (hf 0 _ 78 rfl rfl (by decide)).1, (hf 1 _ 79 rfl rfl (by decide)).1, (hf 2 _ 80 rfl rfl (by decide)).1, (hf 3 _ 81 rfl rfl (by decide)).1, (hf 4 _ 82 rfl rfl (by decide)).1, (hf 5 _ 83 rfl rfl (by decide)).1, (hf 6 _ 84 rfl rfl (by decide)).1, (hf 7 _ 85 rfl rfl (by decide)).1, (hf 8 _ 86 rfl rfl (by decide)).1, (hf 9 _ 87 rfl rfl (by decide)).1, (hf 10 _ 88 rfl rfl (by decide)).1, (hf 11 _ 89 rfl rfl (by decide)).1, (hf 12 _ 90 rfl rfl (by decide)).1, (hf 13 _ 91 rfl rfl (by decide)).1, (hf 14 _ 92 rfl rfl (by decide)).1, (hf 15 _ 93 rfl rfl (by decide)).1, (hf 16 _ 94 rfl rfl (by decide)).1, (hf 17 _ 95 rfl rfl (by decide)).1, (hf 18 _ 96 rfl rfl (by decide)).1, (hf 19 _ 97 rfl rfl (by decide)).1, (hf 20 _ 98 rfl rfl (by decide)).1, (hf 21 _ 99 rfl rfl (by decide)).1, (hf 22 _ 100 rfl rfl (by decide)).1, (hf 23 _ 101 rfl rfl (by decide)).1, (hf 24 _ 102 rfl rfl (by decide)).1, (hf 25 _ 103 rfl rfl (by decide)).1, (hf 26 _ 104 rfl rfl (by decide)).1, (hf 27 _ 105 rfl rfl (by decide)).1, trivial⟩ (by kernel_rfl)
  obtain ⟨tmps, defers⟩ := a
  obtain rfl : defers = [] := hd
  have hl' : tmps = _ := hl
  rw [hl']
  have hb' := est2_chg hb
  refine Eq.mp ?_ (hend w' ⟨hb'.os, hb'.tape, hb'.output, hb'.size, hb'.block⟩)
  kernel_rfl

def tk10z_F (w0 : World) (B : Nat) (ga : Nat) (pa : Pl) (ta : Tm) (gb : Nat) (pb : Pl) (tb : Tm) (gx : Nat) (px : Pl) (tx : Tm) (n sa sb la : Int) : Nat → (Nat → Value) → Value → World → (Nat → Prop) → Prop := fun rix => match rix with
  | 0 => fun _ v _ _ => v = tmV px tx
  | 1 => fun _ v _ _ => v = .int .i64 (sa + n * (sb - 1))
  | 2 => fun _ v _ _ => v = tmV pa ta
  | 3 => fun _ v _ _ => v = .int .i64 sa
  | 4 => fun _ v _ _ => v = .int .i64 n
  | 5 => fun _ v _ _ => v = tmV pb tb
  | 6 => fun _ v _ _ => v = .int .i64 sb
  | 7 => fun _ v _ _ => v = .int .i64 (sb - 1)
  | 8 => fun _ v _ _ => v = .int .i64 (n * (sb - 1))
  | 9 => fun _ v _ _ => v = .int .i64 (sa + n * (sb - 1))
  | 10 => fun _ v _ _ => v = .bool true
  | 11 => fun _ v _ _ => v = .bool true
  | 12 => fun _ v _ _ => v = tmV pa ta
  | 13 => fun _ v _ _ => v = .int .i64 la
  | 14 => fun _ v _ _ => v = .bool false
  | 15 => fun _ v _ _ => v = .bool false
  | 16 => fun _ v _ _ => v = .int .i64 n
  | 17 => fun _ v _ _ => v = .bool false
  | 18 => fun _ v _ _ => v = .bool false
  | 19 => fun _ v _ _ => v = .bool false
  | 20 => fun _ v _ _ => v = tmV px tx
  | 21 => fun _ v _ _ => v = .int .i64 0
  | 22 => fun _ v _ _ => v = .bool true
  | 23 => fun _ v _ _ => v = .bool true
  | 24 => fun _ v _ _ => v = .bool true
  | 25 => fun _ v _ _ => v = .bool true
  | 26 => fun _ v _ _ => v = .bool true
  | 27 => fun _ v _ _ => v = .bool true
  | 28 => fun _ v _ _ => v = .bool true
  | _ => fun _ _ _ _ => True
def tk10z_C : Nat → List Nat := fun rix => match rix with
  | _ => []
theorem tk10z_nw5 : nwB tk10l_ops.toArray 5 = true := by kernel_rfl
theorem tk10z_nw6 : nwB tk10l_ops.toArray 6 = true := by kernel_rfl
theorem tk10z_nw11 : nwB tk10l_ops.toArray 11 = true := by kernel_rfl
theorem tk10z_nw12 : nwB tk10l_ops.toArray 12 = true := by kernel_rfl
set_option maxRecDepth 100000 in
set_option maxHeartbeats 8000000 in
theorem tk10z_obs (w0 : World) (B : Nat) (ga : Nat) (pa : Pl) (ta : Tm) (gb : Nat) (pb : Pl) (tb : Tm) (gx : Nat) (px : Pl) (tx : Tm) (n sa sb la : Int) (hB : B ≤ w0.heap.size) (hx5 : w0.heap[ga]? = some (tmO pa ta)) (hin5 : TmIn w0 B pa ta) (hx6 : w0.heap[gb]? = some (tmO pb tb)) (hin6 : TmIn w0 B pb tb) (hx11 : w0.heap[gx]? = some (tmO px tx)) (hin11 : TmIn w0 B px tx) (ha : (measP ta).1 = sa) (hb : (measP tb).1 = sb) (hx : (measP tx).1 = sa + n * (sb - 1)) (hla : LooseT ta = la) (hr : 0 ≤ sa ∧ sa ≤ 400 ∧ 0 ≤ sb ∧ sb ≤ 400) (hmr : -9223372036854775808 ≤ n * (sb - 1) ∧ n * (sb - 1) ≤ 9223372036854775807) (hm2 : -1000000 ≤ n * (sb - 1) ∧ n * (sb - 1) ≤ 1000000) (hw : ¬ 1 < la) (hn : ¬ 0 < n) (hlx : LooseT tx = 0) (Q : Exit → Act → World → Prop) (a0 : Act) (hi5 : a0.tmps.getD 5 undef = .pointer (some ⟨ga, 0, none⟩)) (hi6 : a0.tmps.getD 6 undef = .pointer (some ⟨gb, 0, none⟩)) (hi11 : a0.tmps.getD 11 undef = .pointer (some ⟨gx, 0, none⟩)) (hi12 : a0.tmps.getD 12 undef = .int .i64 n) :
    ObsE Try.prog tk10l_ops.toArray Q (est2 0 0 (fun _ => False) (fun _ => False)) tk10z_C (tk10z_F w0 B ga pa ta gb pb tb gx px tx n sa sb la) a0 w0 tk10l_ops.toArray.toList 0 := by
  have nw5 := tk10z_nw5
  have nw6 := tk10z_nw6
  have nw11 := tk10z_nw11
  have nw12 := tk10z_nw12
  refine ⟨?_, ?_, ?_, ?_, ?_, ?_, ?_, ?_, ?_, ?_, ?_, ?_, ?_, ?_, ?_, ?_, ?_, ?_, ?_, ?_, ?_, ?_, ?_, ?_, ?_, ?_, ?_, ?_, ?_, trivial⟩
  · refine ⟨⟨fun τ => stableE_det _, leans_not⟩, ?_⟩
    intro a w O hk
    have e11 : a.eval (.tmp 11) = .pointer (some ⟨gx, 0, none⟩) := (hk.init 11 (initialB_of_nw nw11)).trans hi11
    have x5 := hk.world.still hx5 (fun ⟨_, h⟩ => h.elim And.right And.right)
    have x6 := hk.world.still hx6 (fun ⟨_, h⟩ => h.elim And.right And.right)
    have x11 := hk.world.still hx11 (fun ⟨_, h⟩ => h.elim And.right And.right)
    have hfx : ∀ k, k < B → w.heap[k]? = w0.heap[k]? := fun k hk' => hk.fix k ((fun k hk' => est2_fix (Nat.lt_of_lt_of_le hk' hB) (fun e => e.elim) (fun e => e.elim)) k hk')
    have hsz := hk.world.size
    have y5 := hin5.same (w' := w) (fun k hk' _ => hfx k hk')
    have y6 := hin6.same (w' := w) (fun k hk' _ => hfx k hk')
    have y11 := hin11.same (w' := w) (fun k hk' _ => hfx k hk')
    exact obE_loadRow rfl e11 x11 Try.underlying28 rfl (by kernel_rfl) (wanted_none rfl) rfl
  · refine ⟨⟨fun τ => stableE_det _, leans_not⟩, ?_⟩
    intro a w O hk
    have e78 : a.eval (.tmp 78) = tmV px tx := hk.fact 0 _ 78 rfl rfl rfl rfl
    have x5 := hk.world.still hx5 (fun ⟨_, h⟩ => h.elim And.right And.right)
    have x6 := hk.world.still hx6 (fun ⟨_, h⟩ => h.elim And.right And.right)
    have x11 := hk.world.still hx11 (fun ⟨_, h⟩ => h.elim And.right And.right)
    have hfx : ∀ k, k < B → w.heap[k]? = w0.heap[k]? := fun k hk' => hk.fix k ((fun k hk' => est2_fix (Nat.lt_of_lt_of_le hk' hB) (fun e => e.elim) (fun e => e.elim)) k hk')
    have hsz := hk.world.size
    have y5 := hin5.same (w' := w) (fun k hk' _ => hfx k hk')
    have y6 := hin6.same (w' := w) (fun k hk' _ => hfx k hk')
    have y11 := hin11.same (w' := w) (fun k hk' _ => hfx k hk')
    exact obE_callV #[tmV px tx] rfl rfl rfl rfl (by simp only [List.map_cons, List.map_nil]; rw [e78]; try rfl) (wanted_none rfl) ((size_calls tx px w (TmIn.mono y11 (Nat.le_trans hB hsz))).mono fun e w' h => ⟨by rw [h.1, hx], h.2⟩)
  · refine ⟨⟨fun τ => stableE_det _, leans_not⟩, ?_⟩
    intro a w O hk
    have e5 : a.eval (.tmp 5) = .pointer (some ⟨ga, 0, none⟩) := (hk.init 5 (initialB_of_nw nw5)).trans hi5
    have x5 := hk.world.still hx5 (fun ⟨_, h⟩ => h.elim And.right And.right)
    have x6 := hk.world.still hx6 (fun ⟨_, h⟩ => h.elim And.right And.right)
    have x11 := hk.world.still hx11 (fun ⟨_, h⟩ => h.elim And.right And.right)
    have hfx : ∀ k, k < B → w.heap[k]? = w0.heap[k]? := fun k hk' => hk.fix k ((fun k hk' => est2_fix (Nat.lt_of_lt_of_le hk' hB) (fun e => e.elim) (fun e => e.elim)) k hk')
    have hsz := hk.world.size
    have y5 := hin5.same (w' := w) (fun k hk' _ => hfx k hk')
    have y6 := hin6.same (w' := w) (fun k hk' _ => hfx k hk')
    have y11 := hin11.same (w' := w) (fun k hk' _ => hfx k hk')
    exact obE_loadRow rfl e5 x5 Try.underlying28 rfl (by kernel_rfl) (wanted_none rfl) rfl
  · refine ⟨⟨fun τ => stableE_det _, leans_not⟩, ?_⟩
    intro a w O hk
    have e80 : a.eval (.tmp 80) = tmV pa ta := hk.fact 2 _ 80 rfl rfl rfl rfl
    have x5 := hk.world.still hx5 (fun ⟨_, h⟩ => h.elim And.right And.right)
    have x6 := hk.world.still hx6 (fun ⟨_, h⟩ => h.elim And.right And.right)
    have x11 := hk.world.still hx11 (fun ⟨_, h⟩ => h.elim And.right And.right)
    have hfx : ∀ k, k < B → w.heap[k]? = w0.heap[k]? := fun k hk' => hk.fix k ((fun k hk' => est2_fix (Nat.lt_of_lt_of_le hk' hB) (fun e => e.elim) (fun e => e.elim)) k hk')
    have hsz := hk.world.size
    have y5 := hin5.same (w' := w) (fun k hk' _ => hfx k hk')
    have y6 := hin6.same (w' := w) (fun k hk' _ => hfx k hk')
    have y11 := hin11.same (w' := w) (fun k hk' _ => hfx k hk')
    exact obE_callV #[tmV pa ta] rfl rfl rfl rfl (by simp only [List.map_cons, List.map_nil]; rw [e80]; try rfl) (wanted_none rfl) ((size_calls ta pa w (TmIn.mono y5 (Nat.le_trans hB hsz))).mono fun e w' h => ⟨by rw [h.1, ha], h.2⟩)
  · refine ⟨⟨fun τ => stableE_det _, leans_not⟩, ?_⟩
    intro a w O hk
    have e12 : a.eval (.tmp 12) = .int .i64 n := (hk.init 12 (initialB_of_nw nw12)).trans hi12
    exact toE (ob_move rfl e12 (wanted_none rfl) rfl)
  · refine ⟨⟨fun τ => stableE_det _, leans_not⟩, ?_⟩
    intro a w O hk
    have e6 : a.eval (.tmp 6) = .pointer (some ⟨gb, 0, none⟩) := (hk.init 6 (initialB_of_nw nw6)).trans hi6
    have x5 := hk.world.still hx5 (fun ⟨_, h⟩ => h.elim And.right And.right)
    have x6 := hk.world.still hx6 (fun ⟨_, h⟩ => h.elim And.right And.right)
    have x11 := hk.world.still hx11 (fun ⟨_, h⟩ => h.elim And.right And.right)
    have hfx : ∀ k, k < B → w.heap[k]? = w0.heap[k]? := fun k hk' => hk.fix k ((fun k hk' => est2_fix (Nat.lt_of_lt_of_le hk' hB) (fun e => e.elim) (fun e => e.elim)) k hk')
    have hsz := hk.world.size
    have y5 := hin5.same (w' := w) (fun k hk' _ => hfx k hk')
    have y6 := hin6.same (w' := w) (fun k hk' _ => hfx k hk')
    have y11 := hin11.same (w' := w) (fun k hk' _ => hfx k hk')
    exact obE_loadRow rfl e6 x6 Try.underlying28 rfl (by kernel_rfl) (wanted_none rfl) rfl
  · refine ⟨⟨fun τ => stableE_det _, leans_not⟩, ?_⟩
    intro a w O hk
    have e83 : a.eval (.tmp 83) = tmV pb tb := hk.fact 5 _ 83 rfl rfl rfl rfl
    have x5 := hk.world.still hx5 (fun ⟨_, h⟩ => h.elim And.right And.right)
    have x6 := hk.world.still hx6 (fun ⟨_, h⟩ => h.elim And.right And.right)
    have x11 := hk.world.still hx11 (fun ⟨_, h⟩ => h.elim And.right And.right)
    have hfx : ∀ k, k < B → w.heap[k]? = w0.heap[k]? := fun k hk' => hk.fix k ((fun k hk' => est2_fix (Nat.lt_of_lt_of_le hk' hB) (fun e => e.elim) (fun e => e.elim)) k hk')
    have hsz := hk.world.size
    have y5 := hin5.same (w' := w) (fun k hk' _ => hfx k hk')
    have y6 := hin6.same (w' := w) (fun k hk' _ => hfx k hk')
    have y11 := hin11.same (w' := w) (fun k hk' _ => hfx k hk')
    exact obE_callV #[tmV pb tb] rfl rfl rfl rfl (by simp only [List.map_cons, List.map_nil]; rw [e83]; try rfl) (wanted_none rfl) ((size_calls tb pb w (TmIn.mono y6 (Nat.le_trans hB hsz))).mono fun e w' h => ⟨by rw [h.1, hb], h.2⟩)
  · refine ⟨⟨fun τ => stableE_det _, leans_not⟩, ?_⟩
    intro a w O hk
    have e84 : a.eval (.tmp 84) = .int .i64 sb := hk.fact 6 _ 84 rfl rfl rfl rfl
    have x5 := hk.world.still hx5 (fun ⟨_, h⟩ => h.elim And.right And.right)
    have x6 := hk.world.still hx6 (fun ⟨_, h⟩ => h.elim And.right And.right)
    have x11 := hk.world.still hx11 (fun ⟨_, h⟩ => h.elim And.right And.right)
    have hfx : ∀ k, k < B → w.heap[k]? = w0.heap[k]? := fun k hk' => hk.fix k ((fun k hk' => est2_fix (Nat.lt_of_lt_of_le hk' hB) (fun e => e.elim) (fun e => e.elim)) k hk')
    have hsz := hk.world.size
    have y5 := hin5.same (w' := w) (fun k hk' _ => hfx k hk')
    have y6 := hin6.same (w' := w) (fun k hk' _ => hfx k hk')
    have y11 := hin11.same (w' := w) (fun k hk' _ => hfx k hk')
    have hw9 : IntKind.i64.wrap (sb - 1) = sb - 1 := IntWalk.i64_in _ (by omega)
    exact obE_run (wanted_none rfl) (by unfold execOp; simp only []; rw [e84]; go_simp) rfl
  · refine ⟨⟨fun τ => stableE_det _, leans_not⟩, ?_⟩
    intro a w O hk
    have e82 : a.eval (.tmp 82) = .int .i64 n := hk.fact 4 _ 82 rfl rfl rfl rfl
    have e85 : a.eval (.tmp 85) = .int .i64 (sb - 1) := hk.fact 7 _ 85 rfl rfl rfl rfl
    have x5 := hk.world.still hx5 (fun ⟨_, h⟩ => h.elim And.right And.right)
    have x6 := hk.world.still hx6 (fun ⟨_, h⟩ => h.elim And.right And.right)
    have x11 := hk.world.still hx11 (fun ⟨_, h⟩ => h.elim And.right And.right)
    have hfx : ∀ k, k < B → w.heap[k]? = w0.heap[k]? := fun k hk' => hk.fix k ((fun k hk' => est2_fix (Nat.lt_of_lt_of_le hk' hB) (fun e => e.elim) (fun e => e.elim)) k hk')
    have hsz := hk.world.size
    have y5 := hin5.same (w' := w) (fun k hk' _ => hfx k hk')
    have y6 := hin6.same (w' := w) (fun k hk' _ => hfx k hk')
    have y11 := hin11.same (w' := w) (fun k hk' _ => hfx k hk')
    have hw9 : IntKind.i64.wrap (n * (sb - 1)) = n * (sb - 1) := IntWalk.i64_in _ hmr
    exact obE_run (wanted_none rfl) (by unfold execOp; simp only []; rw [e82, e85]; go_simp) rfl
  · refine ⟨⟨fun τ => stableE_det _, leans_not⟩, ?_⟩
    intro a w O hk
    have e81 : a.eval (.tmp 81) = .int .i64 sa := hk.fact 3 _ 81 rfl rfl rfl rfl
    have e86 : a.eval (.tmp 86) = .int .i64 (n * (sb - 1)) := hk.fact 8 _ 86 rfl rfl rfl rfl
    have x5 := hk.world.still hx5 (fun ⟨_, h⟩ => h.elim And.right And.right)
    have x6 := hk.world.still hx6 (fun ⟨_, h⟩ => h.elim And.right And.right)
    have x11 := hk.world.still hx11 (fun ⟨_, h⟩ => h.elim And.right And.right)
    have hfx : ∀ k, k < B → w.heap[k]? = w0.heap[k]? := fun k hk' => hk.fix k ((fun k hk' => est2_fix (Nat.lt_of_lt_of_le hk' hB) (fun e => e.elim) (fun e => e.elim)) k hk')
    have hsz := hk.world.size
    have y5 := hin5.same (w' := w) (fun k hk' _ => hfx k hk')
    have y6 := hin6.same (w' := w) (fun k hk' _ => hfx k hk')
    have y11 := hin11.same (w' := w) (fun k hk' _ => hfx k hk')
    have hw9 : IntKind.i64.wrap (sa + n * (sb - 1)) = sa + n * (sb - 1) := IntWalk.i64_in _ (by omega)
    exact obE_run (wanted_none rfl) (by unfold execOp; simp only []; rw [e81, e86]; go_simp) rfl
  · refine ⟨⟨fun τ => stableE_det _, leans_not⟩, ?_⟩
    intro a w O hk
    have e79 : a.eval (.tmp 79) = .int .i64 (sa + n * (sb - 1)) := hk.fact 1 _ 79 rfl rfl rfl rfl
    have e87 : a.eval (.tmp 87) = .int .i64 (sa + n * (sb - 1)) := hk.fact 9 _ 87 rfl rfl rfl rfl
    exact toE (ob_eqlInt true rfl e79 e87 (by simp) (wanted_none rfl) rfl)
  · refine ⟨⟨fun τ => stableE_det _, leans_not⟩, ?_⟩
    intro a w O hk
    have e88 : a.eval (.tmp 88) = .bool true := hk.fact 10 _ 88 rfl rfl rfl rfl
    exact toE (ob_move rfl e88 (wanted_none rfl) rfl)
  · refine ⟨⟨fun τ => stableE_det _, leans_not⟩, ?_⟩
    intro a w O hk
    have e5 : a.eval (.tmp 5) = .pointer (some ⟨ga, 0, none⟩) := (hk.init 5 (initialB_of_nw nw5)).trans hi5
    have e89 : a.eval (.tmp 89) = .bool true := hk.fact 11 _ 89 rfl rfl rfl rfl
    have x5 := hk.world.still hx5 (fun ⟨_, h⟩ => h.elim And.right And.right)
    have x6 := hk.world.still hx6 (fun ⟨_, h⟩ => h.elim And.right And.right)
    have x11 := hk.world.still hx11 (fun ⟨_, h⟩ => h.elim And.right And.right)
    have hfx : ∀ k, k < B → w.heap[k]? = w0.heap[k]? := fun k hk' => hk.fix k ((fun k hk' => est2_fix (Nat.lt_of_lt_of_le hk' hB) (fun e => e.elim) (fun e => e.elim)) k hk')
    have hsz := hk.world.size
    have y5 := hin5.same (w' := w) (fun k hk' _ => hfx k hk')
    have y6 := hin6.same (w' := w) (fun k hk' _ => hfx k hk')
    have y11 := hin11.same (w' := w) (fun k hk' _ => hfx k hk')
    exact obE_loadRow rfl e5 x5 Try.underlying28 rfl (by kernel_rfl) (wanted_of rfl rfl rfl e89) rfl
  · refine ⟨⟨fun τ => stableE_det _, leans_not⟩, ?_⟩
    intro a w O hk
    have e90 : a.eval (.tmp 90) = tmV pa ta := hk.fact 12 _ 90 rfl rfl rfl rfl
    have e89 : a.eval (.tmp 89) = .bool true := hk.fact 11 _ 89 rfl rfl rfl rfl
    have x5 := hk.world.still hx5 (fun ⟨_, h⟩ => h.elim And.right And.right)
    have x6 := hk.world.still hx6 (fun ⟨_, h⟩ => h.elim And.right And.right)
    have x11 := hk.world.still hx11 (fun ⟨_, h⟩ => h.elim And.right And.right)
    have hfx : ∀ k, k < B → w.heap[k]? = w0.heap[k]? := fun k hk' => hk.fix k ((fun k hk' => est2_fix (Nat.lt_of_lt_of_le hk' hB) (fun e => e.elim) (fun e => e.elim)) k hk')
    have hsz := hk.world.size
    have y5 := hin5.same (w' := w) (fun k hk' _ => hfx k hk')
    have y6 := hin6.same (w' := w) (fun k hk' _ => hfx k hk')
    have y11 := hin11.same (w' := w) (fun k hk' _ => hfx k hk')
    exact obE_callV #[tmV pa ta] rfl rfl rfl rfl (by simp only [List.map_cons, List.map_nil]; rw [e90]; try rfl) (wanted_of rfl rfl rfl e89) ((loose_calls ta pa w (TmIn.mono y5 (Nat.le_trans hB hsz))).mono fun e w' h => ⟨by rw [h.1, hla], h.2⟩)
  · refine ⟨⟨fun τ => stableE_det _, leans_not⟩, ?_⟩
    intro a w O hk
    have e91 : a.eval (.tmp 91) = .int .i64 la := hk.fact 13 _ 91 rfl rfl rfl rfl
    have e89 : a.eval (.tmp 89) = .bool true := hk.fact 11 _ 89 rfl rfl rfl rfl
    have x5 := hk.world.still hx5 (fun ⟨_, h⟩ => h.elim And.right And.right)
    have x6 := hk.world.still hx6 (fun ⟨_, h⟩ => h.elim And.right And.right)
    have x11 := hk.world.still hx11 (fun ⟨_, h⟩ => h.elim And.right And.right)
    have hfx : ∀ k, k < B → w.heap[k]? = w0.heap[k]? := fun k hk' => hk.fix k ((fun k hk' => est2_fix (Nat.lt_of_lt_of_le hk' hB) (fun e => e.elim) (fun e => e.elim)) k hk')
    have hsz := hk.world.size
    have y5 := hin5.same (w' := w) (fun k hk' _ => hfx k hk')
    have y6 := hin6.same (w' := w) (fun k hk' _ => hfx k hk')
    have y11 := hin11.same (w' := w) (fun k hk' _ => hfx k hk')
    exact obE_run (wanted_of rfl rfl rfl e89) (by unfold execOp; simp only []; rw [e91]; go_simp <;> (simp <;> omega)) rfl
  · refine ⟨⟨fun τ => stableE_det _, leans_not⟩, ?_⟩
    intro a w O hk
    have e92 : a.eval (.tmp 92) = .bool false := hk.fact 14 _ 92 rfl rfl rfl rfl
    have e89 : a.eval (.tmp 89) = .bool true := hk.fact 11 _ 89 rfl rfl rfl rfl
    exact toE (ob_move rfl e92 (wanted_of rfl rfl rfl e89) rfl)
  · refine ⟨⟨fun τ => stableE_det _, leans_not⟩, ?_⟩
    intro a w O hk
    have e12 : a.eval (.tmp 12) = .int .i64 n := (hk.init 12 (initialB_of_nw nw12)).trans hi12
    have e93 : a.eval (.tmp 93) = .bool false := hk.fact 15 _ 93 rfl rfl rfl rfl
    exact toE (ob_move rfl e12 (wanted_of rfl rfl rfl e93) rfl)
  · refine ⟨⟨fun τ => stableE_det _, leans_not⟩, ?_⟩
    intro a w O hk
    have e94 : a.eval (.tmp 94) = .int .i64 n := hk.fact 16 _ 94 rfl rfl rfl rfl
    have e93 : a.eval (.tmp 93) = .bool false := hk.fact 15 _ 93 rfl rfl rfl rfl
    have x5 := hk.world.still hx5 (fun ⟨_, h⟩ => h.elim And.right And.right)
    have x6 := hk.world.still hx6 (fun ⟨_, h⟩ => h.elim And.right And.right)
    have x11 := hk.world.still hx11 (fun ⟨_, h⟩ => h.elim And.right And.right)
    have hfx : ∀ k, k < B → w.heap[k]? = w0.heap[k]? := fun k hk' => hk.fix k ((fun k hk' => est2_fix (Nat.lt_of_lt_of_le hk' hB) (fun e => e.elim) (fun e => e.elim)) k hk')
    have hsz := hk.world.size
    have y5 := hin5.same (w' := w) (fun k hk' _ => hfx k hk')
    have y6 := hin6.same (w' := w) (fun k hk' _ => hfx k hk')
    have y11 := hin11.same (w' := w) (fun k hk' _ => hfx k hk')
    exact obE_run (wanted_of rfl rfl rfl e93) (by unfold execOp; simp only []; rw [e94]; go_simp <;> (simp <;> omega)) rfl
  · refine ⟨⟨fun τ => stableE_det _, leans_not⟩, ?_⟩
    intro a w O hk
    have e93 : a.eval (.tmp 93) = .bool false := hk.fact 15 _ 93 rfl rfl rfl rfl
    have e95 : a.eval (.tmp 95) = .bool false := hk.fact 17 _ 95 rfl rfl rfl rfl
    have e89 : a.eval (.tmp 89) = .bool true := hk.fact 11 _ 89 rfl rfl rfl rfl
    exact toE (ob_pick rfl e93 e95 (wanted_of rfl rfl rfl e89) rfl)
  · refine ⟨⟨fun τ => stableE_det _, leans_not⟩, ?_⟩
    intro a w O hk
    have e96 : a.eval (.tmp 96) = .bool false := hk.fact 18 _ 96 rfl rfl rfl rfl
    have e89 : a.eval (.tmp 89) = .bool true := hk.fact 11 _ 89 rfl rfl rfl rfl
    exact toE (ob_move rfl e96 (wanted_of rfl rfl rfl e89) rfl)
  · refine ⟨⟨fun τ => stableE_det _, leans_not⟩, ?_⟩
    intro a w O hk
    have e11 : a.eval (.tmp 11) = .pointer (some ⟨gx, 0, none⟩) := (hk.init 11 (initialB_of_nw nw11)).trans hi11
    have e97 : a.eval (.tmp 97) = .bool false := hk.fact 19 _ 97 rfl rfl rfl rfl
    have x5 := hk.world.still hx5 (fun ⟨_, h⟩ => h.elim And.right And.right)
    have x6 := hk.world.still hx6 (fun ⟨_, h⟩ => h.elim And.right And.right)
    have x11 := hk.world.still hx11 (fun ⟨_, h⟩ => h.elim And.right And.right)
    have hfx : ∀ k, k < B → w.heap[k]? = w0.heap[k]? := fun k hk' => hk.fix k ((fun k hk' => est2_fix (Nat.lt_of_lt_of_le hk' hB) (fun e => e.elim) (fun e => e.elim)) k hk')
    have hsz := hk.world.size
    have y5 := hin5.same (w' := w) (fun k hk' _ => hfx k hk')
    have y6 := hin6.same (w' := w) (fun k hk' _ => hfx k hk')
    have y11 := hin11.same (w' := w) (fun k hk' _ => hfx k hk')
    exact obE_loadRow rfl e11 x11 Try.underlying28 rfl (by kernel_rfl) (wanted_of rfl rfl rfl e97) rfl
  · refine ⟨⟨fun τ => stableE_det _, leans_not⟩, ?_⟩
    intro a w O hk
    have e98 : a.eval (.tmp 98) = tmV px tx := hk.fact 20 _ 98 rfl rfl rfl rfl
    have e97 : a.eval (.tmp 97) = .bool false := hk.fact 19 _ 97 rfl rfl rfl rfl
    have x5 := hk.world.still hx5 (fun ⟨_, h⟩ => h.elim And.right And.right)
    have x6 := hk.world.still hx6 (fun ⟨_, h⟩ => h.elim And.right And.right)
    have x11 := hk.world.still hx11 (fun ⟨_, h⟩ => h.elim And.right And.right)
    have hfx : ∀ k, k < B → w.heap[k]? = w0.heap[k]? := fun k hk' => hk.fix k ((fun k hk' => est2_fix (Nat.lt_of_lt_of_le hk' hB) (fun e => e.elim) (fun e => e.elim)) k hk')
    have hsz := hk.world.size
    have y5 := hin5.same (w' := w) (fun k hk' _ => hfx k hk')
    have y6 := hin6.same (w' := w) (fun k hk' _ => hfx k hk')
    have y11 := hin11.same (w' := w) (fun k hk' _ => hfx k hk')
    exact obE_callV #[tmV px tx] rfl rfl rfl rfl (by simp only [List.map_cons, List.map_nil]; rw [e98]; try rfl) (wanted_of rfl rfl rfl e97) ((loose_calls tx px w (TmIn.mono y11 (Nat.le_trans hB hsz))).mono fun e w' h => ⟨by rw [h.1, hlx], h.2⟩)
  · refine ⟨⟨fun τ => stableE_det _, leans_not⟩, ?_⟩
    intro a w O hk
    have e99 : a.eval (.tmp 99) = .int .i64 0 := hk.fact 21 _ 99 rfl rfl rfl rfl
    have e97 : a.eval (.tmp 97) = .bool false := hk.fact 19 _ 97 rfl rfl rfl rfl
    exact toE (ob_eqlInt true rfl e99 rfl (by simp) (wanted_of rfl rfl rfl e97) rfl)
  · refine ⟨⟨fun τ => stableE_det _, leans_not⟩, ?_⟩
    intro a w O hk
    have e97 : a.eval (.tmp 97) = .bool false := hk.fact 19 _ 97 rfl rfl rfl rfl
    have e100 : a.eval (.tmp 100) = .bool true := hk.fact 22 _ 100 rfl rfl rfl rfl
    have e89 : a.eval (.tmp 89) = .bool true := hk.fact 11 _ 89 rfl rfl rfl rfl
    exact toE (ob_pick rfl e97 e100 (wanted_of rfl rfl rfl e89) rfl)
  · refine ⟨⟨fun τ => stableE_det _, leans_not⟩, ?_⟩
    intro a w O hk
    have e89 : a.eval (.tmp 89) = .bool true := hk.fact 11 _ 89 rfl rfl rfl rfl
    have e101 : a.eval (.tmp 101) = .bool true := hk.fact 23 _ 101 rfl rfl rfl rfl
    exact toE (ob_pick rfl e89 e101 (wanted_none rfl) rfl)
  · refine ⟨⟨fun τ => stableE_det _, leans_not⟩, ?_⟩
    intro a w O hk
    have e102 : a.eval (.tmp 102) = .bool true := hk.fact 24 _ 102 rfl rfl rfl rfl
    exact toE (ob_move rfl e102 (wanted_none rfl) rfl)
  · refine ⟨⟨fun τ => stableE_det _, leans_not⟩, ?_⟩
    intro a w O hk
    have e103 : a.eval (.tmp 103) = .bool true := hk.fact 25 _ 103 rfl rfl rfl rfl
    have x5 := hk.world.still hx5 (fun ⟨_, h⟩ => h.elim And.right And.right)
    have x6 := hk.world.still hx6 (fun ⟨_, h⟩ => h.elim And.right And.right)
    have x11 := hk.world.still hx11 (fun ⟨_, h⟩ => h.elim And.right And.right)
    have hfx : ∀ k, k < B → w.heap[k]? = w0.heap[k]? := fun k hk' => hk.fix k ((fun k hk' => est2_fix (Nat.lt_of_lt_of_le hk' hB) (fun e => e.elim) (fun e => e.elim)) k hk')
    have hsz := hk.world.size
    have y5 := hin5.same (w' := w) (fun k hk' _ => hfx k hk')
    have y6 := hin6.same (w' := w) (fun k hk' _ => hfx k hk')
    have y11 := hin11.same (w' := w) (fun k hk' _ => hfx k hk')
    exact obE_callV #[] rfl rfl rfl rfl rfl (wanted_of rfl rfl rfl e103) (awake_calls w)
  · refine ⟨⟨fun τ => stableE_det _, leans_not⟩, ?_⟩
    intro a w O hk
    have e103 : a.eval (.tmp 103) = .bool true := hk.fact 25 _ 103 rfl rfl rfl rfl
    have e104 : a.eval (.tmp 104) = .bool true := hk.fact 26 _ 104 rfl rfl rfl rfl
    exact toE (ob_pick rfl e103 e104 (wanted_none rfl) rfl)
  · refine ⟨⟨fun τ => stableE_det _, leans_not⟩, ?_⟩
    intro a w O hk
    have e105 : a.eval (.tmp 105) = .bool true := hk.fact 27 _ 105 rfl rfl rfl rfl
    exact toE (ob_assign rfl e105 (wanted_none rfl) rfl)
set_option maxRecDepth 100000 in
set_option maxHeartbeats 8000000 in
theorem tk10z_region {Q : Exit → Act → World → Prop} {id : Nat} (w0 : World) (B : Nat) (ga : Nat) (pa : Pl) (ta : Tm) (gb : Nat) (pb : Pl) (tb : Tm) (gx : Nat) (px : Pl) (tx : Tm) (n sa sb la : Int) {s0 s1 s2 s3 s4 s7 s8 s9 s10 s13 s14 s15 s16 s17 s18 s19 s20 s21 s22 s23 s24 s25 s26 s27 s28 s29 s30 s31 s32 s33 s34 s35 s36 s37 s38 s39 s40 s41 s42 s43 s44 s45 s46 s47 s48 s49 s50 s51 s52 s53 s54 s55 s56 s57 s58 s59 s60 s61 s62 s63 s64 s65 s66 s67 s68 s69 s70 s71 s72 s73 s74 s75 s76 s77 s78 s79 s80 s81 s82 s83 s84 s85 s86 s87 s88 s89 s90 s91 s92 s93 s94 s95 s96 s97 s98 s99 s100 s101 s102 s103 s104 s105 : Value} (hB : B ≤ w0.heap.size) (hx5 : w0.heap[ga]? = some (tmO pa ta)) (hin5 : TmIn w0 B pa ta) (hx6 : w0.heap[gb]? = some (tmO pb tb)) (hin6 : TmIn w0 B pb tb) (hx11 : w0.heap[gx]? = some (tmO px tx)) (hin11 : TmIn w0 B px tx) (ha : (measP ta).1 = sa) (hb : (measP tb).1 = sb) (hx : (measP tx).1 = sa + n * (sb - 1)) (hla : LooseT ta = la) (hr : 0 ≤ sa ∧ sa ≤ 400 ∧ 0 ≤ sb ∧ sb ≤ 400) (hmr : -9223372036854775808 ≤ n * (sb - 1) ∧ n * (sb - 1) ≤ 9223372036854775807) (hm2 : -1000000 ≤ n * (sb - 1) ∧ n * (sb - 1) ≤ 1000000) (hw : ¬ 1 < la) (hn : ¬ 0 < n) (hlx : LooseT tx = 0)
    (hend : ∀ (w' : World), Chg (fun k => False ∨ False) w0 w' → Q .normal { tmps := (s0 :: s1 :: s2 :: s3 :: s4 :: (.pointer (some ⟨ga, 0, none⟩)) :: (.pointer (some ⟨gb, 0, none⟩)) :: s7 :: s8 :: s9 :: (.bool true) :: (.pointer (some ⟨gx, 0, none⟩)) :: (.int .i64 n) :: s13 :: s14 :: s15 :: s16 :: s17 :: s18 :: s19 :: s20 :: s21 :: s22 :: s23 :: s24 :: s25 :: s26 :: s27 :: s28 :: s29 :: s30 :: s31 :: s32 :: s33 :: s34 :: s35 :: s36 :: s37 :: s38 :: s39 :: s40 :: s41 :: s42 :: s43 :: s44 :: s45 :: s46 :: s47 :: s48 :: s49 :: s50 :: s51 :: s52 :: s53 :: s54 :: s55 :: s56 :: s57 :: s58 :: s59 :: s60 :: s61 :: s62 :: s63 :: s64 :: s65 :: s66 :: s67 :: s68 :: s69 :: s70 :: s71 :: s72 :: s73 :: s74 :: s75 :: s76 :: s77 :: (tmV px tx) :: (.int .i64 (sa + n * (sb - 1))) :: (tmV pa ta) :: (.int .i64 sa) :: (.int .i64 n) :: (tmV pb tb) :: (.int .i64 sb) :: (.int .i64 (sb - 1)) :: (.int .i64 (n * (sb - 1))) :: (.int .i64 (sa + n * (sb - 1))) :: (.bool true) :: (.bool true) :: (tmV pa ta) :: (.int .i64 la) :: (.bool false) :: (.bool false) :: (.int .i64 n) :: (.bool false) :: (.bool false) :: (.bool false) :: (tmV px tx) :: (.int .i64 0) :: (.bool true) :: (.bool true) :: (.bool true) :: (.bool true) :: (.bool true) :: (.bool true) :: [] : List Value).toArray, defers := [] } w') :
    (Code.region id tk10l_ops.toArray true).wp Try.prog Q { tmps := (s0 :: s1 :: s2 :: s3 :: s4 :: (.pointer (some ⟨ga, 0, none⟩)) :: (.pointer (some ⟨gb, 0, none⟩)) :: s7 :: s8 :: s9 :: s10 :: (.pointer (some ⟨gx, 0, none⟩)) :: (.int .i64 n) :: s13 :: s14 :: s15 :: s16 :: s17 :: s18 :: s19 :: s20 :: s21 :: s22 :: s23 :: s24 :: s25 :: s26 :: s27 :: s28 :: s29 :: s30 :: s31 :: s32 :: s33 :: s34 :: s35 :: s36 :: s37 :: s38 :: s39 :: s40 :: s41 :: s42 :: s43 :: s44 :: s45 :: s46 :: s47 :: s48 :: s49 :: s50 :: s51 :: s52 :: s53 :: s54 :: s55 :: s56 :: s57 :: s58 :: s59 :: s60 :: s61 :: s62 :: s63 :: s64 :: s65 :: s66 :: s67 :: s68 :: s69 :: s70 :: s71 :: s72 :: s73 :: s74 :: s75 :: s76 :: s77 :: s78 :: s79 :: s80 :: s81 :: s82 :: s83 :: s84 :: s85 :: s86 :: s87 :: s88 :: s89 :: s90 :: s91 :: s92 :: s93 :: s94 :: s95 :: s96 :: s97 :: s98 :: s99 :: s100 :: s101 :: s102 :: s103 :: s104 :: s105 :: [] : List Value).toArray, defers := [] } w0 := by
  refine wp_region_est (by kernel_rfl) (est2 0 0 (fun _ => False) (fun _ => False)) tk10z_C (tk10z_F w0 B ga pa ta gb pb tb gx px tx n sa sb la) (est2_dis (fun _ h _ => h)) (est2_range (fun _ h => h.elim) (fun _ h => h.elim)) (by rfl) (by kernel_rfl) (tk10z_obs w0.drew B ga pa ta gb pb tb gx px tx n sa sb la hB hx5 (TmS.same hin5 (fun _ _ _ => rfl)) hx6 (TmS.same hin6 (fun _ _ _ => rfl)) hx11 (TmS.same hin11 (fun _ _ _ => rfl)) ha hb hx hla hr hmr hm2 hw hn hlx _ _ rfl rfl rfl rfl) ?_
  intro a w' O hd hs hb hf hf2 ha hsame
  have hl := slots_eq (ops := tk10l_ops.toArray) [(10, .bool true), (78, tmV px tx), (79, .int .i64 (sa + n * (sb - 1))), (80, tmV pa ta), (81, .int .i64 sa), (82, .int .i64 n), (83, tmV pb tb), (84, .int .i64 sb), (85, .int .i64 (sb - 1)), (86, .int .i64 (n * (sb - 1))), (87, .int .i64 (sa + n * (sb - 1))), (88, .bool true), (89, .bool true), (90, tmV pa ta), (91, .int .i64 la), (92, .bool false), (93, .bool false), (94, .int .i64 n), (95, .bool false), (96, .bool false), (97, .bool false), (98, tmV px tx), (99, .int .i64 0), (100, .bool true), (101, .bool true), (102, .bool true), (103, .bool true), (104, .bool true), (105, .bool true)] (show a.tmps.size = 106 from hs) (fun i h => hsame i h) ⟨(hf 28 _ 10 rfl rfl (by decide)).1, (hf 0 _ 78 rfl rfl (by decide)).1, (hf 1 _ 79 rfl rfl (by decide)).1, (hf 2 _ 80 rfl rfl (by decide)).1, (hf 3 _ 81 rfl rfl (by decide)).1, (hf 4 _ 82 rfl rfl (by decide)).1, (hf 5 _ 83 rfl rfl (by decide)).1, (hf 6 _ 84 rfl rfl (by decide)).1, (hf 7 _ 85 rfl rfl (by decide)).1, (hf 8 _ 86 rfl rfl (by decide)).1, (hf 9 _ 87 rfl rfl (by decide)).1, (hf 10 _ 88 rfl rfl (by decide)).1, (hf 11 _ 89 rfl rfl (by decide)).1, (hf 12 _ 90 rfl rfl (by decide)).1, (hf 13 _ 91 rfl rfl (by decide)).1, (hf 14 _ 92 rfl rfl (by decide)).1, (hf 15 _ 93 rfl rfl (by decide)).1, (hf 16 _ 94 rfl rfl (by decide)).1, (hf 17 _ 95 rfl rfl (by decide)).1, (hf 18 _ 96 rfl rfl (by decide)).1, (hf 19 _ 97 rfl rfl (by decide)).1, (hf 20 _ 98 rfl rfl (by decide)).1, (hf 21 _ 99 rfl rfl (by decide)).1, (hf 22 _ 100 rfl rfl (by decide)).1, (hf 23 _ 101 rfl rfl (by decide)).1, (hf 24 _ 102 rfl rfl (by decide)).1, (hf 25 _ 103 rfl rfl (by decide)).1, (hf 26 _ 104 rfl rfl (by decide)).1, (hf 27 _ 105 rfl rfl (by decide)).1, trivial⟩ (by kernel_rfl)
  obtain ⟨tmps, defers⟩ := a
  obtain rfl : defers = [] := hd
  have hl' : tmps = _ := hl
  rw [hl']
  have hb' := est2_chg hb
  refine Eq.mp ?_ (hend w' ⟨hb'.os, hb'.tape, hb'.output, hb'.size, hb'.block⟩)
  kernel_rfl

end Go.Proofs.Ytdboloabpjmgaaa
