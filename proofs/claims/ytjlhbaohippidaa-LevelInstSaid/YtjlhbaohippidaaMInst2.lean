/-
  Merged: RfIR, RfI, Bx, LawIn, LvIn, LvsIn.
-/
import Derived.Deep.Slices
import Derived.ChangeArms
import Derived.Test.YtjlhbaohippidaaMInst1
/-! RfIR -/
namespace Go.Proofs.Ytjlhbaohippidaa
open Go.RowKit Go.Proofs.YtjlhbaohippidaaW.PrintWords Go.RegionInvYtjlhbaohippidaa Go.RegionEYtjlhbaohippidaa
set_option linter.unusedVariables false

def ri_ops : List Oper := [
  { dst := some 43, op := Go.Op.load 62 (Go.Operand.tmp 6), type := 62, pos := "ref.go:210", after := #[], guard := none },
  { dst := some 44, op := Go.Op.load 24 (Go.Operand.tmp 9), type := 24, pos := "ref.go:210", after := #[], guard := none },
  { dst := some 45, op := Go.Op.call { callee := Go.Callee.value (Go.Operand.func 44), args := #[Go.Operand.tmp 44], argTypes := #[24] }, type := 62, pos := "ref.go:210", after := #[{ on := 1, ground := Go.Ground.data }], guard := none },
  { dst := some 46, op := Go.Op.move (Go.Operand.tmp 8), type := 3, pos := "ref.go:210", after := #[], guard := none },
  { dst := some 47, op := Go.Op.call { callee := Go.Callee.value (Go.Operand.func 46), args := #[Go.Operand.tmp 45, Go.Operand.tmp 46], argTypes := #[62, 3] }, type := 62, pos := "ref.go:210", after := #[{ on := 2, ground := Go.Ground.data }, { on := 3, ground := Go.Ground.data }, { on := 2, ground := Go.Ground.chain }], guard := none },
  { dst := some 48, op := Go.Op.call { callee := Go.Callee.value (Go.Operand.func 45), args := #[Go.Operand.tmp 43, Go.Operand.tmp 47], argTypes := #[62, 62] }, type := 62, pos := "ref.go:210", after := #[{ on := 0, ground := Go.Ground.data }, { on := 4, ground := Go.Ground.data }, { on := 4, ground := Go.Ground.chain }], guard := none },
  { dst := none, op := Go.Op.store 62 (Go.Operand.tmp 6) (Go.Operand.tmp 48), type := 0, pos := "ref.go:210", after := #[{ on := 5, ground := Go.Ground.data }, { on := 5, ground := Go.Ground.chain }, { on := 0, ground := Go.Ground.phase }, { on := 1, ground := Go.Ground.phase }, { on := 2, ground := Go.Ground.phase }, { on := 3, ground := Go.Ground.phase }, { on := 4, ground := Go.Ground.phase }, { on := 5, ground := Go.Ground.phase }], guard := none }]
def ri_F (w0 : World) (g b : Nat) (k : Int) (a_ : Nf) (Aa : Option Addr) (na ca : Nat) (Av : Option Addr) (cv : Nat) (lv : Lv) : Nat → (Nat → Value) → Value → World → (Nat → Prop) → Prop := fun rix => match rix with
  | 0 => fun _ v _ _ => v = .agg #[.int .i64 a_.1, .slice Aa na ca]
  | 1 => fun _ v _ _ => v = lvV Av cv lv
  | 2 => fun τ v w O => NfV (fun _ => False) (shortN (sumP lv)) v w O
  | 3 => fun _ v _ _ => v = .int .i64 k
  | 4 => fun τ v w O => NfV (fun _ => False) (shortN (plusR k (shortN (sumP lv)))) v w O
  | 5 => fun τ v w O => NfV (fun _ => False) (shortN (orN a_ (shortN (plusR k (shortN (sumP lv)))))) v w O
  | 6 => fun τ v w O => NfBoxF g (shortN (orN a_ (shortN (plusR k (shortN (sumP lv)))))) w O
  | _ => fun _ _ _ _ => True
def ri_C : Nat → List Nat := fun rix => match rix with
  | 6 => [5]
  | _ => []
theorem ri_nw6 : nwB ri_ops.toArray 6 = true := by kernel_rfl
theorem ri_nw8 : nwB ri_ops.toArray 8 = true := by kernel_rfl
theorem ri_nw9 : nwB ri_ops.toArray 9 = true := by kernel_rfl
set_option maxRecDepth 100000 in
set_option maxHeartbeats 8000000 in
theorem ri_obs (w0 : World) (g b : Nat) (k : Int) (a_ : Nf) (Aa : Option Addr) (na ca : Nat) (Av : Option Addr) (cv : Nat) (lv : Lv) (hx6 : w0.heap[g]? = some (.cells #[.int .i64 a_.1, .slice Aa na ca] 62 (0, 0))) (hxa : IntsS w0 (fun k => k < w0.heap.size ∧ ¬ k = g) Aa na a_.2) (hx9 : w0.heap[b]? = some (.cells #[.int .i64 lv.kind, .int .i64 lv.num, .slice Av lv.kids.length cv] 24 (0, 0))) (hbg : ¬ b = g) (hlv : LvS w0 (fun k => k < w0.heap.size ∧ ¬ k = g) Av cv lv) (hgd : Good lv) (hok0 : NfOk (shortN (sumP lv))) (hoka : NfOk a_) (hokp : NfOk (shortN (plusR k (shortN (sumP lv))))) (hk0 : 0 ≤ k) (hk1 : k ≤ 1099511627776) (Q : Exit → Act → World → Prop) (a0 : Act) (hi6 : a0.tmps.getD 6 undef = .pointer (some ⟨g, 0, none⟩)) (hi8 : a0.tmps.getD 8 undef = .int .i64 k) (hi9 : a0.tmps.getD 9 undef = .pointer (some ⟨b, 0, none⟩)) :
    ObsE Try.prog ri_ops.toArray Q (est2 6 0 (fun k => k = g) (fun _ => False)) ri_C (ri_F w0 g b k a_ Aa na ca Av cv lv) a0 w0 ri_ops.toArray.toList 0 := by
  have nw6 := ri_nw6
  have nw8 := ri_nw8
  have nw9 := ri_nw9
  refine ⟨?_, ?_, ?_, ?_, ?_, ?_, ?_, trivial⟩
  · refine ⟨⟨fun τ => stableE_det _, leans_not⟩, ?_⟩
    intro a w O hk
    have e6 : a.eval (.tmp 6) = .pointer (some ⟨g, 0, none⟩) := (hk.init 6 (initialB_of_nw nw6)).trans hi6
    have x6 := (hk.est 6 _ rfl (.inr rfl) g (.inl ⟨rfl, rfl⟩)).trans hx6
    exact obE_loadRow rfl e6 x6 Try.underlying62 rfl (by kernel_rfl) (wanted_none rfl) rfl
  · refine ⟨⟨fun τ => stableE_det _, leans_not⟩, ?_⟩
    intro a w O hk
    have e9 : a.eval (.tmp 9) = .pointer (some ⟨b, 0, none⟩) := (hk.init 9 (initialB_of_nw nw9)).trans hi9
    have x9 := hk.world.still hx9 (fun ⟨_, h⟩ => h.elim (fun h => hbg h.2) And.right)
    exact obE_loadRow rfl e9 x9 Try.underlying24 rfl (by kernel_rfl) (wanted_none rfl) rfl
  · refine ⟨⟨fun τ => stableE_nf (fun k hk' => hk'.elim), leans_not⟩, ?_⟩
    intro a w O hk
    have e44 : a.eval (.tmp 44) = lvV Av cv lv := hk.fact 1 _ 44 rfl rfl rfl rfl
    have hlx := (hlv.same (fun k hk' _ => hk.fix k ((fun k hk' => est2_fix hk'.1 (fun h => hk'.2 h) (fun h => h)) k hk')))
    refine obE_callNew #[lvV Av cv lv] rfl rfl rfl rfl (by simp only [List.map_cons, List.map_nil]; rw [e44]) (wanted_none rfl) ((refNorm_calls _ lv (Nat.lt_succ_self _) hgd Av cv w (LvS.all hlx)).mono ?_)
    intro e w' h
    exact NfV.of_got h
  · refine ⟨⟨fun τ => stableE_det _, leans_not⟩, ?_⟩
    intro a w O hk
    have e8 : a.eval (.tmp 8) = .int .i64 k := (hk.init 8 (initialB_of_nw nw8)).trans hi8
    exact toE (ob_move rfl e8 (wanted_none rfl) rfl)
  · refine ⟨⟨fun τ => stableE_nf (fun k hk' => hk'.elim), leans_not⟩, ?_⟩
    intro a w O hk
    have f45 := hk.fact 2 _ 45 rfl rfl rfl rfl
    have g45 := hk.owns 2 rfl rfl
    have e46 : a.eval (.tmp 46) = .int .i64 k := hk.fact 3 _ 46 rfl rfl rfl rfl
    obtain ⟨A, n', cap, e45, h1, h2⟩ := f45
    have hok := hok0
    have hln := h2.1.1
    refine obE_callNew #[.agg #[.int .i64 (shortN (sumP lv)).1, .slice A n' cap], .int .i64 k] rfl rfl rfl rfl (by simp only [List.map_cons, List.map_nil]; rw [e46, show a.eval (.tmp 45) = _ from e45]) (wanted_none rfl) ((refPlus_calls A n' cap (shortN (sumP lv)).1 k (shortN (sumP lv)).2 w h2.1 hok.1 hok.2.1 hk0 hk1 hok.2.2.1 (by have := hok.2.2.2; omega)).mono ?_)
    intro e w' h
    exact NfV.of_got h
  · refine ⟨⟨fun τ => stableE_nf (fun k hk' => hk'.elim), leans_not⟩, ?_⟩
    intro a w O hk
    have e43 : a.eval (.tmp 43) = .agg #[.int .i64 a_.1, .slice Aa na ca] := hk.fact 0 _ 43 rfl rfl rfl rfl
    have f47 := hk.fact 4 _ 47 rfl rfl rfl rfl
    have g47 := hk.owns 4 rfl rfl
    obtain ⟨A, n', cap, e47, h1, h2⟩ := f47
    have hxa' := (hxa.same (fun k hk' _ => hk.fix k ((fun k hk' => est2_fix hk'.1 (fun h => hk'.2 h) (fun h => h)) k hk')))
    have hln := h2.1.1
    have hln' := hxa.1.1
    refine obE_callNew #[.agg #[.int .i64 a_.1, .slice Aa na ca], .agg #[.int .i64 (shortN (plusR k (shortN (sumP lv)))).1, .slice A n' cap]] rfl rfl rfl rfl (by simp only [List.map_cons, List.map_nil]; rw [e43, show a.eval (.tmp 47) = _ from e47]) (wanted_none rfl) ((refBoth_calls Aa A na ca n' cap a_.1 (shortN (plusR k (shortN (sumP lv)))).1 a_.2 (shortN (plusR k (shortN (sumP lv)))).2 w hxa'.1 h2.1 hoka.1 hoka.2.2.1 hokp.2.2.1 (by have := hoka.2.2.2; omega) (by have := hokp.2.2.2; omega)).mono ?_)
    intro e w' h
    exact NfV.of_got h
  · refine ⟨⟨fun τ => stableE_nfboxF, leans_not⟩, ?_⟩
    intro a w O hk
    have e6 : a.eval (.tmp 6) = .pointer (some ⟨g, 0, none⟩) := (hk.init 6 (initialB_of_nw nw6)).trans hi6
    have f48 := hk.fact 5 _ 48 rfl rfl rfl rfl
    have g48 := hk.owns 5 rfl rfl
    have x6 := (hk.est 6 _ rfl (.inl rfl) g (.inl ⟨rfl, rfl⟩)).trans hx6
    obtain ⟨z0, z1, y0, y1⟩ := row2 x6
    obtain ⟨A, n', cap, e48, h1, h2⟩ := f48
    refine obE_store (w' := (w.setCell ⟨g, 0, none⟩ (.int .i64 (shortN (orN a_ (shortN (plusR k (shortN (sumP lv)))))).1)).setCell ⟨g, 1, none⟩ (.slice A n' cap)) (fun k => k = g ∨ O 5 k) (wanted_none rfl) (by unfold execOp; simp only []; rw [e6, show a.eval (.tmp 48) = _ from e48]; go_simp) ((chg_set2 w g _ _).mono fun k h => .inr (.inl ⟨rfl, h⟩)) ?_ (fun k h => .inl ?_)
    · exact ⟨A, n', cap, set2 x6, .inl rfl, h1, (h2.same fun k hk' hz => (chg_set2 w g _ _).block k hz (fun h => hk'.elim id fun h' => hk.away 6 5 _ rfl (.inl rfl) rfl rfl g (.inl ⟨rfl, rfl⟩) (h ▸ h'))).mono fun k hk' _ => hk'.elim False.elim fun h' => ⟨.inr h', fun h => hk.away 6 5 _ rfl (.inl rfl) rfl rfl g (.inl ⟨rfl, rfl⟩) (h ▸ h')⟩⟩
    · exact h.elim (fun h => .inr (.inl ⟨rfl, h⟩)) fun h => .inl ⟨5, by simp [ri_C], h⟩
set_option maxRecDepth 100000 in
set_option maxHeartbeats 8000000 in
theorem ri_region {Q : Exit → Act → World → Prop} {id : Nat} (w0 : World) (g b : Nat) (k : Int) (a_ : Nf) (Aa : Option Addr) (na ca : Nat) (Av : Option Addr) (cv : Nat) (lv : Lv) {s0 s1 s2 s3 s4 s5 s7 s10 s11 s12 s13 s14 s15 s16 s17 s18 s19 s20 s21 s22 s23 s24 s25 s26 s27 s28 s29 s30 s31 s32 s33 s34 s35 s36 s37 s38 s39 s40 s41 s42 s43 s44 s45 s46 s47 s48 s49 s50 s51 : Value} (hx6 : w0.heap[g]? = some (.cells #[.int .i64 a_.1, .slice Aa na ca] 62 (0, 0))) (hxa : IntsS w0 (fun k => k < w0.heap.size ∧ ¬ k = g) Aa na a_.2) (hx9 : w0.heap[b]? = some (.cells #[.int .i64 lv.kind, .int .i64 lv.num, .slice Av lv.kids.length cv] 24 (0, 0))) (hbg : ¬ b = g) (hlv : LvS w0 (fun k => k < w0.heap.size ∧ ¬ k = g) Av cv lv) (hgd : Good lv) (hok0 : NfOk (shortN (sumP lv))) (hoka : NfOk a_) (hokp : NfOk (shortN (plusR k (shortN (sumP lv))))) (hk0 : 0 ≤ k) (hk1 : k ≤ 1099511627776)
    (hend : ∀ (w' : World) (u45 : Value) (u47 : Value) (u48 : Value) (O2 : Nat → Prop) (O4 : Nat → Prop) (v6 : Value) (O6 : Nat → Prop), Chg (fun k => (fun k => k = g) k ∨ (fun _ => False) k) w0 w' → (NfV (fun _ => False) (shortN (sumP lv)) u45 w' O2) → (∀ k, O2 k → k < w'.heap.size ∧ ¬ Fix w0 (est2 6 0 (fun k => k = g) (fun _ => False)) k) → (NfV (fun _ => False) (shortN (plusR k (shortN (sumP lv)))) u47 w' O4) → (∀ k, O4 k → k < w'.heap.size ∧ ¬ Fix w0 (est2 6 0 (fun k => k = g) (fun _ => False)) k) → (NfBoxF g (shortN (orN a_ (shortN (plusR k (shortN (sumP lv)))))) w' O6) → (∀ k, O6 k → k < w'.heap.size ∧ ¬ Fix w0 (est2 6 0 (fun k => k = g) (fun _ => False)) k) → Q .normal { tmps := (s0 :: s1 :: s2 :: s3 :: s4 :: s5 :: (.pointer (some ⟨g, 0, none⟩) : Value) :: s7 :: (.int .i64 k : Value) :: (.pointer (some ⟨b, 0, none⟩) : Value) :: s10 :: s11 :: s12 :: s13 :: s14 :: s15 :: s16 :: s17 :: s18 :: s19 :: s20 :: s21 :: s22 :: s23 :: s24 :: s25 :: s26 :: s27 :: s28 :: s29 :: s30 :: s31 :: s32 :: s33 :: s34 :: s35 :: s36 :: s37 :: s38 :: s39 :: s40 :: s41 :: s42 :: (.agg #[.int .i64 a_.1, .slice Aa na ca] : Value) :: (lvV Av cv lv : Value) :: u45 :: (.int .i64 k : Value) :: u47 :: u48 :: s49 :: s50 :: s51 :: ([] : List Value)).toArray, defers := [] } w') :
    (Code.region id ri_ops.toArray true).wp Try.prog Q { tmps := (s0 :: s1 :: s2 :: s3 :: s4 :: s5 :: (.pointer (some ⟨g, 0, none⟩) : Value) :: s7 :: (.int .i64 k : Value) :: (.pointer (some ⟨b, 0, none⟩) : Value) :: s10 :: s11 :: s12 :: s13 :: s14 :: s15 :: s16 :: s17 :: s18 :: s19 :: s20 :: s21 :: s22 :: s23 :: s24 :: s25 :: s26 :: s27 :: s28 :: s29 :: s30 :: s31 :: s32 :: s33 :: s34 :: s35 :: s36 :: s37 :: s38 :: s39 :: s40 :: s41 :: s42 :: s43 :: s44 :: s45 :: s46 :: s47 :: s48 :: s49 :: s50 :: s51 :: ([] : List Value)).toArray, defers := [] } w0 := by
  refine wp_region_est (by kernel_rfl) (est2 6 0 (fun k => k = g) (fun _ => False)) ri_C (ri_F w0 g b k a_ Aa na ca Av cv lv) (est2_dis (fun k h1 h2 => h2)) (est2_range (fun k h => by have := blk_lt hx6; omega) (fun k h => h.elim)) (by rfl) (by kernel_rfl) (ri_obs w0.drew g b k a_ Aa na ca Av cv lv hx6 (hxa.same fun _ _ _ => rfl) hx9 hbg (hlv.same fun _ _ _ => rfl) hgd hok0 hoka hokp hk0 hk1 _ _ rfl rfl rfl) ?_
  intro a w' O hd hs hb hf hf2 ha hsame
  have hx : ∀ (qi : Nat) (qv : Value), nwB ri_ops.toArray qi = true → (s0 :: s1 :: s2 :: s3 :: s4 :: s5 :: (.pointer (some ⟨g, 0, none⟩) : Value) :: s7 :: (.int .i64 k : Value) :: (.pointer (some ⟨b, 0, none⟩) : Value) :: s10 :: s11 :: s12 :: s13 :: s14 :: s15 :: s16 :: s17 :: s18 :: s19 :: s20 :: s21 :: s22 :: s23 :: s24 :: s25 :: s26 :: s27 :: s28 :: s29 :: s30 :: s31 :: s32 :: s33 :: s34 :: s35 :: s36 :: s37 :: s38 :: s39 :: s40 :: s41 :: s42 :: s43 :: s44 :: s45 :: s46 :: s47 :: s48 :: s49 :: s50 :: s51 :: ([] : List Value)).toArray.getD qi undef = qv → a.tmps.getD qi undef = qv := fun qi qv h e => (hsame qi (nwB.spec h)).trans e
  have x0 := hx 0 s0 (by kernel_rfl) rfl
  have x1 := hx 1 s1 (by kernel_rfl) rfl
  have x2 := hx 2 s2 (by kernel_rfl) rfl
  have x3 := hx 3 s3 (by kernel_rfl) rfl
  have x4 := hx 4 s4 (by kernel_rfl) rfl
  have x5 := hx 5 s5 (by kernel_rfl) rfl
  have x6 := hx 6 (.pointer (some ⟨g, 0, none⟩)) (by kernel_rfl) rfl
  have x7 := hx 7 s7 (by kernel_rfl) rfl
  have x8 := hx 8 (.int .i64 k) (by kernel_rfl) rfl
  have x9 := hx 9 (.pointer (some ⟨b, 0, none⟩)) (by kernel_rfl) rfl
  have x10 := hx 10 s10 (by kernel_rfl) rfl
  have x11 := hx 11 s11 (by kernel_rfl) rfl
  have x12 := hx 12 s12 (by kernel_rfl) rfl
  have x13 := hx 13 s13 (by kernel_rfl) rfl
  have x14 := hx 14 s14 (by kernel_rfl) rfl
  have x15 := hx 15 s15 (by kernel_rfl) rfl
  have x16 := hx 16 s16 (by kernel_rfl) rfl
  have x17 := hx 17 s17 (by kernel_rfl) rfl
  have x18 := hx 18 s18 (by kernel_rfl) rfl
  have x19 := hx 19 s19 (by kernel_rfl) rfl
  have x20 := hx 20 s20 (by kernel_rfl) rfl
  have x21 := hx 21 s21 (by kernel_rfl) rfl
  have x22 := hx 22 s22 (by kernel_rfl) rfl
  have x23 := hx 23 s23 (by kernel_rfl) rfl
  have x24 := hx 24 s24 (by kernel_rfl) rfl
  have x25 := hx 25 s25 (by kernel_rfl) rfl
  have x26 := hx 26 s26 (by kernel_rfl) rfl
  have x27 := hx 27 s27 (by kernel_rfl) rfl
  have x28 := hx 28 s28 (by kernel_rfl) rfl
  have x29 := hx 29 s29 (by kernel_rfl) rfl
  have x30 := hx 30 s30 (by kernel_rfl) rfl
  have x31 := hx 31 s31 (by kernel_rfl) rfl
  have x32 := hx 32 s32 (by kernel_rfl) rfl
  have x33 := hx 33 s33 (by kernel_rfl) rfl
  have x34 := hx 34 s34 (by kernel_rfl) rfl
  have x35 := hx 35 s35 (by kernel_rfl) rfl
  have x36 := hx 36 s36 (by kernel_rfl) rfl
  have x37 := hx 37 s37 (by kernel_rfl) rfl
  have x38 := hx 38 s38 (by kernel_rfl) rfl
  have x39 := hx 39 s39 (by kernel_rfl) rfl
  have x40 := hx 40 s40 (by kernel_rfl) rfl
  have x41 := hx 41 s41 (by kernel_rfl) rfl
  have x42 := hx 42 s42 (by kernel_rfl) rfl
  have x43 : a.tmps.getD 43 undef = .agg #[.int .i64 a_.1, .slice Aa na ca] := (hf 0 _ 43 rfl rfl (by decide)).1
  have x44 : a.tmps.getD 44 undef = lvV Av cv lv := (hf 1 _ 44 rfl rfl (by decide)).1
  have x46 : a.tmps.getD 46 undef = .int .i64 k := (hf 3 _ 46 rfl rfl (by decide)).1
  have x49 := hx 49 s49 (by kernel_rfl) rfl
  have x50 := hx 50 s50 (by kernel_rfl) rfl
  have x51 := hx 51 s51 (by kernel_rfl) rfl
  have hl : a.tmps = (s0 :: s1 :: s2 :: s3 :: s4 :: s5 :: (.pointer (some ⟨g, 0, none⟩) : Value) :: s7 :: (.int .i64 k : Value) :: (.pointer (some ⟨b, 0, none⟩) : Value) :: s10 :: s11 :: s12 :: s13 :: s14 :: s15 :: s16 :: s17 :: s18 :: s19 :: s20 :: s21 :: s22 :: s23 :: s24 :: s25 :: s26 :: s27 :: s28 :: s29 :: s30 :: s31 :: s32 :: s33 :: s34 :: s35 :: s36 :: s37 :: s38 :: s39 :: s40 :: s41 :: s42 :: (.agg #[.int .i64 a_.1, .slice Aa na ca] : Value) :: (lvV Av cv lv : Value) :: (a.tmps.getD 45 undef : Value) :: (.int .i64 k : Value) :: (a.tmps.getD 47 undef : Value) :: (a.tmps.getD 48 undef : Value) :: s49 :: s50 :: s51 :: ([] : List Value)).toArray := by
    have h := lit a.tmps 52 hs
    have e : ((List.range 52).map (fun i => a.tmps.getD i undef)).toArray = ((a.tmps.getD 0 undef : Value) :: (a.tmps.getD 1 undef : Value) :: (a.tmps.getD 2 undef : Value) :: (a.tmps.getD 3 undef : Value) :: (a.tmps.getD 4 undef : Value) :: (a.tmps.getD 5 undef : Value) :: (a.tmps.getD 6 undef : Value) :: (a.tmps.getD 7 undef : Value) :: (a.tmps.getD 8 undef : Value) :: (a.tmps.getD 9 undef : Value) :: (a.tmps.getD 10 undef : Value) :: (a.tmps.getD 11 undef : Value) :: (a.tmps.getD 12 undef : Value) :: (a.tmps.getD 13 undef : Value) :: (a.tmps.getD 14 undef : Value) :: (a.tmps.getD 15 undef : Value) :: (a.tmps.getD 16 undef : Value) :: (a.tmps.getD 17 undef : Value) :: (a.tmps.getD 18 undef : Value) :: (a.tmps.getD 19 undef : Value) :: (a.tmps.getD 20 undef : Value) :: (a.tmps.getD 21 undef : Value) :: (a.tmps.getD 22 undef : Value) :: (a.tmps.getD 23 undef : Value) :: (a.tmps.getD 24 undef : Value) :: (a.tmps.getD 25 undef : Value) :: (a.tmps.getD 26 undef : Value) :: (a.tmps.getD 27 undef : Value) :: (a.tmps.getD 28 undef : Value) :: (a.tmps.getD 29 undef : Value) :: (a.tmps.getD 30 undef : Value) :: (a.tmps.getD 31 undef : Value) :: (a.tmps.getD 32 undef : Value) :: (a.tmps.getD 33 undef : Value) :: (a.tmps.getD 34 undef : Value) :: (a.tmps.getD 35 undef : Value) :: (a.tmps.getD 36 undef : Value) :: (a.tmps.getD 37 undef : Value) :: (a.tmps.getD 38 undef : Value) :: (a.tmps.getD 39 undef : Value) :: (a.tmps.getD 40 undef : Value) :: (a.tmps.getD 41 undef : Value) :: (a.tmps.getD 42 undef : Value) :: (a.tmps.getD 43 undef : Value) :: (a.tmps.getD 44 undef : Value) :: (a.tmps.getD 45 undef : Value) :: (a.tmps.getD 46 undef : Value) :: (a.tmps.getD 47 undef : Value) :: (a.tmps.getD 48 undef : Value) :: (a.tmps.getD 49 undef : Value) :: (a.tmps.getD 50 undef : Value) :: (a.tmps.getD 51 undef : Value) :: ([] : List Value)).toArray := rfl
    rw [e, x0, x1, x2, x3, x4, x5, x6, x7, x8, x9, x10, x11, x12, x13, x14, x15, x16, x17, x18, x19, x20, x21, x22, x23, x24, x25, x26, x27, x28, x29, x30, x31, x32, x33, x34, x35, x36, x37, x38, x39, x40, x41, x42, x43, x44, x46, x49, x50, x51] at h
    exact h
  obtain ⟨tmps, defers⟩ := a
  obtain rfl : defers = [] := hd
  have hl' : tmps = _ := hl
  rw [hl']
  obtain ⟨⟨v6, hv6⟩, ho6⟩ := hf2 6 _ rfl rfl (by decide)
  have hb' := est2_chg hb
  exact hend w' _ _ _ (O 2) (O 4) v6 (O 6) ⟨hb'.os, hb'.tape, hb'.output, hb'.size, hb'.block⟩ (hf 2 _ 45 rfl rfl (by decide)).1 (hf 2 _ 45 rfl rfl (by decide)).2 (hf 4 _ 47 rfl rfl (by decide)).1 (hf 4 _ 47 rfl rfl (by decide)).2 hv6 ho6

end Go.Proofs.Ytjlhbaohippidaa

/-! RfI -/
namespace Go.Proofs.Ytjlhbaohippidaa
open Go.RowKit Go.Proofs.YtjlhbaohippidaaW.PrintWords Go.RegionInvYtjlhbaohippidaa Go.RegionEYtjlhbaohippidaa

/-- What is gathered, in its box g; the rest is as it was. -/
structure RfSt (wb wr : World) (g : Nat) (f : Nf) : Prop where
  box : ∃ A n cap, wr.heap[g]? = some (.cells #[.int .i64 f.1, .slice A n cap] 62 (0, 0)) ∧ n ≤ cap ∧ IntsS wr (fun k => g < k) A n f.2
  chg : Chg (fun k => k = g) wb wr
theorem chg_size {S : Nat → Prop} {w w' : World} (h : Chg S w w') : w.heap.size ≤ w'.heap.size := h.size
/-- All that stands for the variables up to i is sound. -/
def SndTo (vs : List Lv) (K : List Int) (i : Nat) : Prop := ∀ j < i, 0 ≤ rd K (j : Nat) → soundB (vlv vs j) = true
theorem sndTo_next {vs : List Lv} {K : List Int} {i : Nat} (h : SndTo vs K i) (hi : 0 ≤ rd K (i : Nat) → soundB (vlv vs i) = true) : SndTo vs K (i + 1) := fun j hj => by
  rcases Nat.lt_succ_iff_lt_or_eq.1 hj with h' | rfl
  · exact h j h'
  · exact hi
theorem snd_nfl {vs : List Lv} {K : List Int} {i : Nat} (h : SndTo vs K i) : ∀ j < i, 0 ≤ rd K (j : Nat) → NfL (sumP (vlv vs j)) := fun j hj h0 => sum_nfl (h j hj h0)
theorem instL_bad {vs : List Lv} {l : Lv} {i : Nat} (hl : soundB l = true) (hi : i < (shortN (sumP l)).2.length) (h0 : 0 ≤ rd (shortN (sumP l)).2 (i : Nat)) (hs : soundB (vlv vs i) = false) : instL vs l = .mk 0 0 [] := by
  have hg := good_of_sound hl
  have hok := sumP_ok hl
  have hat : 0 ≤ atP (sumP l).2 i := by rw [← atP_short hok, atP_lt hi]; exact h0
  have hiv : i < vs.length := by
    rcases Nat.lt_or_ge i vs.length with h | h
    · exact h
    · unfold vlv at hs
      rw [if_neg (by omega), var_sound (by have := short_len_le' hl; omega)] at hs
      cases hs
  unfold vlv at hs
  rw [if_pos hiv] at hs
  unfold instL
  rw [if_neg]
  rintro ⟨-, h⟩
  rw [(inst_iff vs hg _).1 h i hiv hat] at hs
  cases hs
theorem instL_good {vs : List Lv} {l : Lv} (hl : soundB l = true) (hs : SndTo vs (shortN (sumP l)).2 (shortN (sumP l)).2.length) :
    instL vs l = lvlN (shortN (accN (shortN (sumP l)).1 (shortN (sumP l)).2 vs (shortN (sumP l)).2.length)) := by
  have hg := good_of_sound hl
  have hok := sumP_ok hl
  have hv : ∀ i : Nat, 0 ≤ atP (sumP l).2 i → i < (shortN (sumP l)).2.length ∧ 0 ≤ rd (shortN (sumP l)).2 (i : Nat) := fun i hi => by
    rw [← atP_short hok] at hi
    by_cases hlt : i < (shortN (sumP l)).2.length
    · rw [atP_lt hlt] at hi; exact ⟨hlt, hi⟩
    · rw [atP_beyond (by omega)] at hi; omega
  rw [acc_eq hg fun i hi => sum_nfl (hs i (hv i hi).1 (hv i hi).2)]
  unfold instL
  rw [if_pos]
  refine ⟨hl, (inst_iff vs hg _).2 fun i hi h0 => ?_⟩
  have := hs i (hv i h0).1 (hv i h0).2
  unfold vlv at this
  rwa [if_pos hi] at this
set_option maxRecDepth 4000 in
set_option maxHeartbeats 16000000 in
theorem refInst_calls (A : Option Addr) (c : Nat) (l : Lv) (Av : Option Addr) (nv cv : Nat) (vs : List Lv) (w : World) (hin : LvIn w w.heap.size A c l) (hv : LvIn w w.heap.size Av cv (.mk 0 0 vs)) (hn : nv = vs.length) :
    Calls Try.prog 24 #[lvV A c l, .slice Av nv cv] w (LvGot w (fun _ => False) (instL vs l)) := by
  have HIN := Aside0.mk hin
  have HV := Aside0.mk hv
  have HN := Aside0.mk hn
  have hl9 : l.kids.length ≤ 9223372036854775807 := by have := hin.len; omega
  clear hin hv hn
  unfold lvV
  have HB0 := Aside0.mk (two_boxes (w := w) (.cells #[.int .i64 l.kind, .int .i64 l.num, .slice A l.kids.length c] 24 (0, 0)) (.cells #[.int .i64 0, .int .i64 0, .slice none 0 0] 24 (0, 0)))
  have HX0 := Aside0.mk (box0 w (.cells #[.int .i64 l.kind, .int .i64 l.num, .slice A l.kids.length c] 24 (0, 0)) (.cells #[.int .i64 0, .int .i64 0, .slice none 0 0] 24 (0, 0)))
  have HY0 := Aside0.mk (box1 w (.cells #[.int .i64 l.kind, .int .i64 l.num, .slice A l.kids.length c] 24 (0, 0)) (.cells #[.int .i64 0, .int .i64 0, .slice none 0 0] 24 (0, 0)))
  go_enter Try.func24, Try.ntmps24
  cases hs : soundB l with
  | false =>
    have HS := Aside0.mk hs
    have HE := Aside0.mk (show instL vs l = .mk 0 0 [] by unfold instL; rw [if_neg (by rw [hs]; simp)])
    clear hs
    go_upto_region 2 with (first
      | (go_at_call 16; go_must (refine (refSound_calls A c l _ (LvS.all (HIN.out.stay HB0.out))).mono ?_; rintro e w1 ⟨rfl, hb⟩; rw [HS.out]; have HB1 := Aside0.mk (below_then HB0.out HB0.out.size hb); have HY1 := Aside0.mk (blk_below HY0.out hb); obtain ⟨z0, z1, z2, q0, q1, q2⟩ := row3 HY1.out; clear hb)))
    go_wp2
    refine bodyPost_ret (results_c rfl _ _ (w.heap.size + 1) 24 #[.int .i64 0, .int .i64 0, .slice none 0 0] (0, 0) _ rfl (set3 HY1.out) Try.underlying24 rfl (by kernel_rfl)) rfl ?_
    rw [HE.out]
    exact zero_got _ _ (Chg.trans_below HB1.out (chg_set3 _ _ _ _ _) (fun _ e => by omega) HB1.out.size)
  | true =>
    have HS := Aside0.mk hs
    obtain ⟨f, hf⟩ : ∃ f, f = shortN (sumP l) := ⟨_, rfl⟩
    have HF := Aside0.mk hf
    have HOK := Aside0.mk (show NfOk f by rw [hf]; exact short_ok (sumP_ok hs))
    have HLE := Aside0.mk (show f.2.length ≤ 1001 by rw [hf]; exact short_len_le' hs)
    clear hs
    go_upto_region 5 with (first
      | (go_at_call 16; go_must (refine (refSound_calls A c l _ (LvS.all (HIN.out.stay HB0.out))).mono ?_; rintro e w1 ⟨rfl, hb⟩; rw [HS.out]; have HB1 := Aside0.mk (below_then HB0.out HB0.out.size hb); have HX1 := Aside0.mk (blk_below HX0.out hb); have HY1 := Aside0.mk (blk_below HY0.out hb); obtain ⟨p0, p1, p2, -, -, -⟩ := row3 HX1.out; clear hb))
      | (go_at_call 44; go_must (refine (refNorm_calls _ l (Nat.lt_succ_self _) (good_of_sound HS.out) A c _ (LvS.all (HIN.out.stay HB1.out))).mono ?_; rw [← hf]; rintro e w2 ⟨Af, nf, cf, rfl, hcapf, hif, hb⟩; have HNF := Aside0.mk hif.1.1; have HIF := Aside0.mk hif; have HB2 := Aside0.mk (below_then HB1.out HB1.out.size hb); have HY2 := Aside0.mk (blk_below HY1.out hb); have HZ1 := Aside0.mk HB1.out.size; clear hb hif hcapf)))
    rw [← hf]
    clear hf p0 p1 p2
    obtain ⟨g, hg⟩ : ∃ g, g = w2.heap.size + 1 := ⟨_, rfl⟩
    obtain ⟨wb, hwb⟩ : ∃ wb, wb = (w2.alloc (.cells #[.int .i64 f.1, .slice Af nf cf] 62 (0, 0))).alloc (.cells #[.int .i64 f.1, .slice none 0 0] 62 (0, 0)) := ⟨_, rfl⟩
    have hbb : Below w2.heap.size w2 wb := by rw [hwb]; exact two_boxes _ _
    have hfb : wb.heap[w2.heap.size]? = some (.cells #[.int .i64 f.1, .slice Af nf cf] 62 (0, 0)) := by rw [hwb]; exact box0 _ _ _
    have hgb : wb.heap[g]? = some (.cells #[.int .i64 f.1, .slice none 0 0] 62 (0, 0)) := by rw [hwb, hg]; exact box1 _ _ _
    have HBB := Aside0.mk (below_then HB2.out HB2.out.size hbb)
    have HYB := Aside0.mk (blk_below HY2.out hbb)
    have HIB := Aside0.mk ((HIF.out.mono (S' := fun k => k < g) fun k _ hz => by omega).later hbb)
    have HST := Aside0.mk (show RfSt wb wb g (shortN (accN f.1 f.2 vs 0)) from ⟨⟨none, 0, 0, by rw [show accN f.1 f.2 vs 0 = (f.1, []) from rfl, short_num]; exact hgb, Nat.le_refl _, by rw [show accN f.1 f.2 vs 0 = (f.1, []) from rfl, short_num]; exact IntsS.nil _ _⟩, Chg.of_below (Below.refl _ _)⟩)
    have HGZ := Aside0.mk (show w.heap.size + 1 < g by have := blk_lt HY2.out; omega)
    obtain ⟨d0, d1, -, -⟩ := row2 hfb
    rw [← hg, ← hwb]
    clear hwb hbb hfb hgb
    have hn9 : nf ≤ 1001 := by rw [← HNF.out]; exact HLE.out
    clear hg
    go_wp2
    go_loopw [22] (fun i wr => ∃ (j : Nat), i = .int .i64 j ∧ j ≤ nf ∧ Aside0 (SndTo vs f.2 j) ∧ Aside0 (RfSt wb wr g (shortN (accN f.1 f.2 vs j)))) (fun i _ => nf - (intOf i).toNat)
    case atStart => exact ⟨0, rfl, Nat.zero_le _, ⟨fun j hj => by omega⟩, HST⟩
    case round =>
      clear HST d0 d1
      obtain ⟨j, rfl, hj, HSN, HST⟩ := hrel
      have hgz := HGZ.out
      have HBR := Aside0.mk (Chg.trans_below HBB.out HST.out.chg (fun k h => by have : k = g := h; omega) HBB.out.size)
      have HYR := Aside0.mk ((HST.out.chg.block _ (blk_lt HYB.out) (by omega)).trans HYB.out)
      have HIR := Aside0.mk (HIB.out.same fun k hk hz => HST.out.chg.block k hz (by omega))
      have HAC := Aside0.mk (acc_ok (c := f.1) (K := f.2) (vs := vs) ⟨HOK.out.1, HOK.out.2.1⟩ HOK.out.2.2.1 j (by rw [HNF.out]; exact hj) (snd_nfl HSN.out))
      by_cases hlt : j < nf
      · obtain ⟨ad, rfl, hc⟩ := HIR.out.1.at_ j (by omega) (by omega)
        rw [Int.toNat_natCast] at hc
        obtain ⟨y, hy⟩ : ∃ y, y = rd f.2 j := ⟨_, rfl⟩
        rw [← hy] at hc
        have HY := Aside0.mk hy
        have hyr : -1 ≤ y ∧ y ≤ 1099511627776 := by
          have := atP_ok HOK.out.2.2.1 j
          rw [atP_lt (by rw [HNF.out]; exact hlt), ← hy] at this
          exact this
        clear hy
        by_cases hy0 : y < 0
        · have HAN := Aside0.mk (show accN f.1 f.2 vs (j + 1) = accN f.1 f.2 vs j by rw [accN, ← HY.out, if_pos hy0])
          have HSN' := Aside0.mk (sndTo_next HSN.out (fun h => by rw [← HY.out] at h; omega))
          go_wp2
          go_roundw
          case rel => exact ⟨j + 1, by go_num, by omega, HSN', ⟨by rw [HAN.out]; exact HST.out⟩⟩
          case measure => (simp [intOf]; try omega)
        · obtain ⟨x, hx⟩ : ∃ x, x = vlv vs j := ⟨_, rfl⟩
          have HX := Aside0.mk hx
          clear hx
          obtain ⟨W, hW⟩ : ∃ W, W = wr.alloc (.cells #[.int .i64 2, .int .i64 j, .slice none 0 0] 24 (0, 0)) := ⟨_, rfl⟩
          have HBX := Aside0.mk (show W.heap[wr.heap.size]? = some (.cells #[.int .i64 2, .int .i64 j, .slice none 0 0] 24 (0, 0)) by rw [hW]; exact blk_new _ _)
          have HBW := Aside0.mk (show Below wr.heap.size wr W by rw [hW]; exact below_alloc (Below.refl _ _) _)
          go_upto_region 10 with (fail)
          rw [← hW]
          clear hW
          go_upto_if 34 with (fail)
          go_cut [] (fun w5 => ∃ Ax cx, Aside0 (w5.heap[wr.heap.size]? = some (.cells #[.int .i64 x.kind, .int .i64 x.num, .slice Ax x.kids.length cx] 24 (0, 0))) ∧ Aside0 (LvS w5 (fun k => k < w.heap.size) Ax cx x) ∧ Aside0 (Below wr.heap.size wr w5))
          case first =>
            by_cases hjv : j < nv
            · obtain ⟨q, hq⟩ : ∃ q, vs[j]? = some q := ⟨_, List.getElem?_eq_getElem (by rw [← HN.out]; exact hjv)⟩
              have HXQ := Aside0.mk (show x = q by rw [HX.out]; unfold vlv; rw [if_pos (by rw [← HN.out]; exact hjv), lvAt_get hq])
              obtain ⟨Ax, cx, hcs, hlx⟩ := (LvIn.stay HV.out (below_then HBR.out HBR.out.size HBW.out)).kid j q hq
              obtain ⟨ad2, rfl, hc1, hc2, hc3⟩ := hcs.facts
              have HLX := Aside0.mk hlx
              obtain ⟨b0, b1, b2, f0, f1, f2⟩ := row3 HBX.out
              clear hcs hlx hq
              go_wp2
              go_meet
              have hch := chg_set3 W wr.heap.size (.int .i64 q.kind) (.int .i64 q.num) (.slice Ax q.kids.length cx)
              have hwz := HBR.out.size
              case rel => rw [HXQ.out]; exact ⟨Ax, cx, ⟨set3 HBX.out⟩, ⟨HLX.out.same fun k hk hz => hch.block k hz (by omega)⟩, ⟨Chg.trans_below HBW.out hch (fun _ e => by omega) HBW.out.size⟩⟩
            · have HXQ := Aside0.mk (show x = .mk 2 j [] by rw [HX.out]; unfold vlv; rw [if_neg (by rw [← HN.out]; exact hjv)])
              go_wp2
              go_meet
              case rel => rw [HXQ.out]; exact ⟨none, 0, ⟨HBX.out⟩, ⟨LvS.leaf _ _ _ _⟩, ⟨HBW.out⟩⟩
          case rest =>
            obtain ⟨Ax, cx, HBX5, HLX5, HB5⟩ := hcut
            clear HBX HBW
            obtain ⟨b0, b1, b2, -, -, -⟩ := row3 HBX5.out
            have hwz := HBR.out.size
            cases hsx : soundB x with
            | true =>
              have SX := Aside0.mk hsx
              have HSN' := Aside0.mk (sndTo_next HSN.out (fun _ => by rw [← HX.out]; exact hsx))
              have HNX := Aside0.mk (sum_nfl hsx)
              clear hsx
              go_upto_region 14 with (first
                | (go_at_call 16; go_must (refine (refSound_calls Ax cx x _ (LvIn.mono HLX5.out (Nat.le_trans hwz HB5.out.size))).mono ?_; rintro e w6 ⟨rfl, hb⟩; rw [SX.out]; have HB6 := Aside0.mk (below_then HB5.out HB5.out.size hb); have HBX6 := Aside0.mk (blk_below HBX5.out hb); have HLX6 := Aside0.mk (HLX5.out.later hb); clear hb)))
              obtain ⟨Aa, na, ca, hgb, hca, hia⟩ := HST.out.box
              have hgr := blk_lt hgb
              have hz6 := HB6.out.size
              have HAE := Aside0.mk (show shortN (accN f.1 f.2 vs (j + 1)) = shortN (orN (shortN (accN f.1 f.2 vs j)) (shortN (plusR y (shortN (sumP x))))) by
                rw [short_plus HNX.out.1 (by omega) hyr.2, short_or HAC.out.1 (plusN_ok HNX.out.1 (by omega) hyr.2), accN, ← HY.out, if_neg (by omega), ← HX.out])
              refine ri_region w6 g wr.heap.size y (shortN (accN f.1 f.2 vs j)) Aa na ca Ax cx x (blk_below hgb HB6.out) ((hia.later HB6.out).mono fun k hk hz => ⟨hz, by omega⟩) HBX6.out (by omega) (HLX6.out.mono fun k hk hz => ⟨hz, by omega⟩) (good_of_sound SX.out) (short_ok HNX.out.1) (short_ok HAC.out.1) (short_ok (plusR_ok (short_ok HNX.out.1) (by omega) hyr.2)) (by omega) hyr.2 ?_
              intro w' u45 u47 u48 O2 O4 v6 O6 hch _ _ _ _ hbox ho6
              have hst : RfSt wb w' g (shortN (accN f.1 f.2 vs (j + 1))) := by
                obtain ⟨A7, n7, c7, h1, -, h2, h3⟩ := hbox
                rw [HAE.out]
                refine ⟨⟨A7, n7, c7, h1, h2, h3.mono fun k hk _ => ?_⟩, chg_trans (chg_trans HST.out.chg (Chg.of_below HB6.out)) (hch.mono fun k h => h.elim id False.elim)⟩
                have := fix_not (ho6 k hk.1).2 (fun i h => h.elim And.right fun h => h.2.elim) (show g ≤ w6.heap.size by omega)
                have := hk.2
                show g < k
                omega
              have HST' := Aside0.mk hst
              clear hch hbox ho6 hst hgb hca hia
              go_wp2
              go_roundw
              case rel => exact ⟨j + 1, by go_num, by omega, HSN', HST'⟩
              case measure => (simp [intOf]; try omega)
            | false =>
              have SX := Aside0.mk hsx
              have HE := Aside0.mk (show instL vs l = .mk 0 0 [] from instL_bad HS.out (i := j) (by rw [← HF.out, HNF.out]; exact hlt) (by rw [← HF.out, ← HY.out]; omega) (by rw [← HX.out]; exact hsx))
              clear hsx
              go_upto_region 13 with (first
                | (go_at_call 16; go_must (refine (refSound_calls Ax cx x _ (LvIn.mono HLX5.out (Nat.le_trans hwz HB5.out.size))).mono ?_; rintro e w6 ⟨rfl, hb⟩; rw [SX.out]; have HB6 := Aside0.mk (below_then HBR.out HBR.out.size (below_then HB5.out HB5.out.size hb)); have HY6 := Aside0.mk (blk_below HYR.out (below_then HB5.out HB5.out.size hb)); obtain ⟨z0, z1, z2, q0, q1, q2⟩ := row3 HY6.out; clear hb)))
              go_wp2
              refine bodyPost_ret (results_c rfl _ _ (w.heap.size + 1) 24 #[.int .i64 0, .int .i64 0, .slice none 0 0] (0, 0) _ rfl (set3 HY6.out) Try.underlying24 rfl (by kernel_rfl)) rfl ?_
              rw [HE.out]
              exact zero_got _ _ (Chg.trans_below HB6.out (chg_set3 _ _ _ _ _) (fun _ e => by omega) HB6.out.size)
      · obtain rfl : j = nf := by omega
        have hlt' : decide ((j : Int) < j) = false := by simp
        obtain ⟨Aa, na, ca, hgb, hca, hia⟩ := HST.out.box
        obtain ⟨h, hh⟩ : ∃ h, h = shortN (accN f.1 f.2 vs j) := ⟨_, rfl⟩
        have HE := Aside0.mk (show instL vs l = lvlN h by rw [hh, instL_good HS.out (by rw [← HF.out, HNF.out]; exact HSN.out), ← HF.out, HNF.out])
        have HHO := Aside0.mk (show NfOk h by rw [hh]; exact short_ok HAC.out.1)
        have HHL := Aside0.mk (show h.2.length ≤ 1001 by rw [hh]; exact Nat.le_trans (short_len_le _) HAC.out.2)
        have HHN := Aside0.mk (show partsN h ≠ [] by rw [hh]; exact parts_ne HAC.out.1)
        rw [← hh] at hgb hia
        have HIA := Aside0.mk hia
        obtain ⟨d0, d1, -, -⟩ := row2 hgb
        clear hgb hia hh
        go_wp2_with (first
          | (go_at_call 47; go_must (refine (refLevel_calls Aa na ca h.1 h.2 _ HIA.out.1 HHO.out (by rw [← HIA.out.1.1]; exact HHL.out) HHN.out).mono ?_; obtain ⟨x, hx⟩ : ∃ x, x = lvlN (h.1, h.2) := ⟨_, rfl⟩; rw [← hx]; have HXE := Aside0.mk (show instL vs l = x by rw [HE.out, hx]); rintro e w6 ⟨A4, c4, rfl, hl4, hb⟩; have HL6 := Aside0.mk hl4; have HZ6 := Aside0.mk HBR.out.size; have HB6 := Aside0.mk (below_then HBR.out HBR.out.size hb); have HY6 := Aside0.mk (blk_below HYR.out hb); have HYL := Aside0.mk (blk_lt HYR.out); obtain ⟨z0, z1, z2, q0, q1, q2⟩ := row3 HY6.out; clear hb hl4 hx; simp only [lvV])))
        refine bodyPost_ret (results_c rfl _ _ (w.heap.size + 1) 24 #[.int .i64 x.kind, .int .i64 x.num, .slice A4 x.kids.length c4] (0, 0) _ rfl (set3 HY6.out) Try.underlying24 rfl (by kernel_rfl)) rfl ?_
        have hch := chg_set3 w6 (w.heap.size + 1) (.int .i64 x.kind) (.int .i64 x.num) (.slice A4 x.kids.length c4)
        have hyl := HYL.out
        have hz6 := HZ6.out
        rw [HXE.out]
        exact ⟨A4, c4, rfl, (HL6.out.same fun b hb hz => hch.block b hz (by rcases hb with hb | hb; exact hb.elim; omega)).mono fun b hb _ => hb.elim .inl fun h => .inr (Nat.le_trans hz6 h), Chg.trans_below HB6.out hch (fun _ e => by omega) HB6.out.size⟩
end Go.Proofs.Ytjlhbaohippidaa

/-! Bx -/
namespace Go.Proofs.Ytjlhbaohippidaa
open Go.RowKit Go.Proofs.YtjlhbaohippidaaW.PrintWords Go.RegionInvYtjlhbaohippidaa Go.RegionEYtjlhbaohippidaa
abbrev bx3 (w : World) (A B C : Option Addr) (c c' c'' : Nat) (a b d : Lv) : World := (bx2 w A B c c' a b).alloc (.cells #[.int .i64 d.kind, .int .i64 d.num, .slice C d.kids.length c''] 24 (0, 0))
theorem box2_3 (w : World) (A B C : Option Addr) (c c' c'' : Nat) (a b d : Lv) : (bx3 w A B C c c' c'' a b d).heap[w.heap.size + 1 + 1]? = some (.cells #[.int .i64 d.kind, .int .i64 d.num, .slice C d.kids.length c''] 24 (0, 0)) := by
  have := blk_new (bx2 w A B c c' a b) (.cells #[.int .i64 d.kind, .int .i64 d.num, .slice C d.kids.length c''] 24 (0, 0))
  simpa [bx2] using this
theorem lv_old {w w1 : World} {A : Option Addr} {c : Nat} {l : Lv} (h : LvIn w w.heap.size A c l) (hb : Below w.heap.size w w1) : LvS w1 (fun k => k < w1.heap.size) A c l := (h.stay hb).mono hb.size
end Go.Proofs.Ytjlhbaohippidaa

/-! LawIn -/
namespace Go.Proofs.Ytjlhbaohippidaa
open Go.RowKit Go.IntWalk Go.Proofs.YtjlhbaohippidaaW.PrintWords Go.RegionInvYtjlhbaohippidaa Go.RegionEYtjlhbaohippidaa
set_option linter.unusedVariables false

theorem inst_sz (vs : List Lv) (l : Lv) : sz (instL vs l) ≤ 5000 := by
  unfold instL
  split
  · rename_i h
    have hg := good_of_sound h.1
    have hz : ∀ f ∈ List.replicate vs.length ((0, []) : Nf), NfL f := fun f hf => by rw [(List.mem_replicate.1 hf).2]; exact zero_nfl
    have hfs := inst_nfl vs l _ hz
    have he := inst_sum hg (List.replicate vs.length (0, [])) (instP vs l (List.replicate vs.length (0, []))).2 (by simp) h.2 ⟨rfl, fun _ _ h => h⟩
    have hn := ofP_nfl hfs hg
    rw [he] at hn
    exact Nat.le_trans (sz_lvl (Nat.le_trans (short_len_le _) hn.2)) (by decide)
  · decide
theorem got_lv {w w' : World} {T R : Nat → Prop} {l : Lv} {e : Ending} (h : LvGot w (fun _ => False) l e w') : ∃ v O', e = .returned v ∧ LvV T l v w' O' ∧ Chg R w w' ∧ ∀ k, O' k → R k ∨ (w.heap.size ≤ k ∧ k < w'.heap.size) := by
  obtain ⟨A, c, rfl, hl, hB⟩ := h
  exact ⟨_, fun k => k < w'.heap.size ∧ w.heap.size ≤ k, rfl, ⟨A, c, rfl, hl.mono fun k h hz => h.elim (fun h => h.elim) fun h => .inr ⟨hz, h⟩⟩, Chg.of_below hB, fun k h => .inr ⟨h.2, h.1⟩⟩

def li0_ops : List Oper := [
  { dst := some 5, op := Go.Op.move (Go.Operand.tmp 1), type := 22, pos := "law.go:57", after := #[], guard := none },
  { dst := some 6, op := Go.Op.call { callee := Go.Callee.builtin Go.Builtin.len, args := #[Go.Operand.tmp 5], argTypes := #[22] }, type := 3, pos := "law.go:57", after := #[{ on := 0, ground := Go.Ground.data }], guard := none },
  { dst := some 7, op := Go.Op.binOp Go.BinOp.gtr 3 (Go.Operand.tmp 6) (Go.Operand.const (Go.Value.int Go.IntKind.i64 50)) 3, type := 4, pos := "law.go:57", after := #[{ on := 1, ground := Go.Ground.data }], guard := none },
  { dst := some 8, op := Go.Op.move (Go.Operand.tmp 7), type := 4, pos := "law.go:57", after := #[{ on := 2, ground := Go.Ground.data }], guard := none },
  { dst := some 9, op := Go.Op.load 24 (Go.Operand.tmp 2), type := 24, pos := "law.go:57", after := #[{ on := 3, ground := Go.Ground.guard }], guard := some (3, false) },
  { dst := some 10, op := Go.Op.move (Go.Operand.tmp 1), type := 22, pos := "law.go:57", after := #[{ on := 3, ground := Go.Ground.guard }], guard := some (3, false) },
  { dst := some 11, op := Go.Op.call { callee := Go.Callee.value (Go.Operand.func 23), args := #[Go.Operand.tmp 9, Go.Operand.tmp 10], argTypes := #[24, 22] }, type := 24, pos := "law.go:57", after := #[{ on := 4, ground := Go.Ground.data }, { on := 5, ground := Go.Ground.data }, { on := 3, ground := Go.Ground.chain }, { on := 3, ground := Go.Ground.guard }], guard := some (3, false) },
  { dst := some 12, op := Go.Op.load 24 (Go.Operand.tmp 2), type := 24, pos := "law.go:57", after := #[{ on := 3, ground := Go.Ground.guard }], guard := some (3, false) },
  { dst := some 13, op := Go.Op.move (Go.Operand.tmp 1), type := 22, pos := "law.go:57", after := #[{ on := 3, ground := Go.Ground.guard }], guard := some (3, false) },
  { dst := some 14, op := Go.Op.call { callee := Go.Callee.value (Go.Operand.func 24), args := #[Go.Operand.tmp 12, Go.Operand.tmp 13], argTypes := #[24, 22] }, type := 24, pos := "law.go:57", after := #[{ on := 7, ground := Go.Ground.data }, { on := 8, ground := Go.Ground.data }, { on := 6, ground := Go.Ground.chain }, { on := 3, ground := Go.Ground.guard }], guard := some (3, false) },
  { dst := some 15, op := Go.Op.call { callee := Go.Callee.value (Go.Operand.func 22), args := #[Go.Operand.tmp 11, Go.Operand.tmp 14], argTypes := #[24, 24] }, type := 4, pos := "law.go:57", after := #[{ on := 6, ground := Go.Ground.data }, { on := 9, ground := Go.Ground.data }, { on := 9, ground := Go.Ground.chain }, { on := 3, ground := Go.Ground.guard }], guard := some (3, false) },
  { dst := some 16, op := Go.Op.move (Go.Operand.tmp 15), type := 4, pos := "law.go:57", after := #[{ on := 10, ground := Go.Ground.data }, { on := 10, ground := Go.Ground.chain }, { on := 3, ground := Go.Ground.guard }], guard := some (3, false) },
  { dst := some 17, op := Go.Op.call { callee := Go.Callee.value (Go.Operand.func 13), args := #[], argTypes := #[] }, type := 4, pos := "law.go:57", after := #[{ on := 11, ground := Go.Ground.chain }, { on := 11, ground := Go.Ground.guard }], guard := some (11, true) },
  { dst := some 18, op := Go.Op.pick (Go.Operand.tmp 16) (Go.Operand.tmp 17) (Go.Operand.const (Go.Value.bool false)), type := 4, pos := "law.go:57", after := #[{ on := 11, ground := Go.Ground.data }, { on := 12, ground := Go.Ground.data }, { on := 3, ground := Go.Ground.guard }], guard := some (3, false) },
  { dst := some 19, op := Go.Op.pick (Go.Operand.tmp 8) (Go.Operand.const (Go.Value.bool true)) (Go.Operand.tmp 18), type := 4, pos := "law.go:57", after := #[{ on := 3, ground := Go.Ground.data }, { on := 13, ground := Go.Ground.data }], guard := none },
  { dst := some 4, op := Go.Op.assign (Go.Operand.tmp 19), type := 4, pos := "law.go:57", after := #[{ on := 14, ground := Go.Ground.data }, { on := 12, ground := Go.Ground.chain }, { on := 0, ground := Go.Ground.phase }, { on := 1, ground := Go.Ground.phase }, { on := 2, ground := Go.Ground.phase }, { on := 3, ground := Go.Ground.phase }, { on := 4, ground := Go.Ground.phase }, { on := 5, ground := Go.Ground.phase }, { on := 6, ground := Go.Ground.phase }, { on := 7, ground := Go.Ground.phase }, { on := 8, ground := Go.Ground.phase }, { on := 9, ground := Go.Ground.phase }, { on := 10, ground := Go.Ground.phase }, { on := 11, ground := Go.Ground.phase }, { on := 12, ground := Go.Ground.phase }, { on := 13, ground := Go.Ground.phase }, { on := 14, ground := Go.Ground.phase }], guard := none }]
def li0_F (w0 : World) (b : Nat) (Al Av : Option Addr) (cl nv cv : Nat) (ll : Lv) (vs : List Lv) : Nat → (Nat → Value) → Value → World → (Nat → Prop) → Prop := fun rix => match rix with
  | 0 => fun _ v _ _ => v = .slice Av nv cv
  | 1 => fun _ v _ _ => v = .int .i64 nv
  | 2 => fun _ v _ _ => v = .bool false
  | 3 => fun _ v _ _ => v = .bool false
  | 4 => fun _ v _ _ => v = lvV Al cl ll
  | 5 => fun _ v _ _ => v = .slice Av nv cv
  | 6 => fun τ v w O => LvV (fun k => k < w0.heap.size) (instL vs ll) v w O
  | 7 => fun _ v _ _ => v = lvV Al cl ll
  | 8 => fun _ v _ _ => v = .slice Av nv cv
  | 9 => fun τ v w O => LvV (fun k => k < w0.heap.size) (instL vs ll) v w O
  | 10 => fun _ v _ _ => v = .bool true
  | 11 => fun _ v _ _ => v = .bool true
  | 12 => fun _ v _ _ => v = .bool true
  | 13 => fun _ v _ _ => v = .bool true
  | 14 => fun _ v _ _ => v = .bool true
  | 15 => fun _ v _ _ => v = .bool true
  | _ => fun _ _ _ _ => True
def li0_C : Nat → List Nat := fun rix => match rix with
  | _ => []
theorem li0_nw1 : nwB li0_ops.toArray 1 = true := by kernel_rfl
theorem li0_nw2 : nwB li0_ops.toArray 2 = true := by kernel_rfl
set_option maxRecDepth 100000 in
set_option maxHeartbeats 8000000 in
theorem li0_obs (w0 : World) (b : Nat) (Al Av : Option Addr) (cl nv cv : Nat) (ll : Lv) (vs : List Lv) (hxl : w0.heap[b]? = some (.cells #[.int .i64 ll.kind, .int .i64 ll.num, .slice Al ll.kids.length cl] 24 (0, 0))) (hinl : LvS w0 (fun k => k < w0.heap.size) Al cl ll) (hvs : LvS w0 (fun k => k < w0.heap.size) Av cv (.mk 0 0 vs)) (hnv : nv = vs.length) (hbig : decide ((50 : Int) < (nv : Int)) = false) (Q : Exit → Act → World → Prop) (a0 : Act) (hi1 : a0.tmps.getD 1 undef = .slice Av nv cv) (hi2 : a0.tmps.getD 2 undef = .pointer (some ⟨b, 0, none⟩)) :
    ObsE Try.prog li0_ops.toArray Q (est2 0 0 (fun _ => False) (fun _ => False)) li0_C (li0_F w0 b Al Av cl nv cv ll vs) a0 w0 li0_ops.toArray.toList 0 := by
  have nw1 := li0_nw1
  have nw2 := li0_nw2
  refine ⟨?_, ?_, ?_, ?_, ?_, ?_, ?_, ?_, ?_, ?_, ?_, ?_, ?_, ?_, ?_, ?_, trivial⟩
  · refine ⟨⟨fun τ => stableE_det _, leans_not⟩, ?_⟩
    intro a w O hk
    have e1 : a.eval (.tmp 1) = .slice Av nv cv := (hk.init 1 (initialB_of_nw nw1)).trans hi1
    exact toE (ob_move rfl e1 (wanted_none rfl) rfl)
  · refine ⟨⟨fun τ => stableE_det _, leans_not⟩, ?_⟩
    intro a w O hk
    have e5 : a.eval (.tmp 5) = .slice Av nv cv := hk.fact 0 _ 5 rfl rfl rfl rfl
    exact toE (ob_len rfl e5 Try.underlying22 (wanted_none rfl) rfl)
  · refine ⟨⟨fun τ => stableE_det _, leans_not⟩, ?_⟩
    intro a w O hk
    have e6 : a.eval (.tmp 6) = .int .i64 nv := hk.fact 1 _ 6 rfl rfl rfl rfl
    exact toE (ob_bin rfl e6 rfl (run_gtrB _ _ false hbig) (by decide) (wanted_none rfl) rfl)
  · refine ⟨⟨fun τ => stableE_det _, leans_not⟩, ?_⟩
    intro a w O hk
    have e7 : a.eval (.tmp 7) = .bool false := hk.fact 2 _ 7 rfl rfl rfl rfl
    exact toE (ob_move rfl e7 (wanted_none rfl) rfl)
  · refine ⟨⟨fun τ => stableE_det _, leans_not⟩, ?_⟩
    intro a w O hk
    have e2 : a.eval (.tmp 2) = .pointer (some ⟨b, 0, none⟩) := (hk.init 2 (initialB_of_nw nw2)).trans hi2
    have e8 : a.eval (.tmp 8) = .bool false := hk.fact 3 _ 8 rfl rfl rfl rfl
    have x2 := hk.world.still hxl (fun ⟨_, h⟩ => h.elim And.right And.right)
    exact obE_loadRow rfl e2 x2 Try.underlying24 rfl (by kernel_rfl) (wanted_of rfl rfl rfl e8) rfl
  · refine ⟨⟨fun τ => stableE_det _, leans_not⟩, ?_⟩
    intro a w O hk
    have e1 : a.eval (.tmp 1) = .slice Av nv cv := (hk.init 1 (initialB_of_nw nw1)).trans hi1
    have e8 : a.eval (.tmp 8) = .bool false := hk.fact 3 _ 8 rfl rfl rfl rfl
    exact toE (ob_move rfl e1 (wanted_of rfl rfl rfl e8) rfl)
  · refine ⟨⟨fun τ => stableE_lv (fun k hk' => est2_fix hk' (fun h => h) (fun h => h)), leans_not⟩, ?_⟩
    intro a w O hk
    have e9 : a.eval (.tmp 9) = lvV Al cl ll := hk.fact 4 _ 9 rfl rfl rfl rfl
    have e10 : a.eval (.tmp 10) = .slice Av nv cv := hk.fact 5 _ 10 rfl rfl rfl rfl
    have e8 : a.eval (.tmp 8) = .bool false := hk.fact 3 _ 8 rfl rfl rfl rfl
    refine obE_call #[lvV Al cl ll, .slice Av nv cv] Try.func23 rfl rfl rfl (by simp only [List.map_cons, List.map_nil]; rw [e9, e10]) (wanted_of rfl rfl rfl e8) ((inst_calls Al cl ll Av nv cv vs w (LvS.all (LvS.same hinl (fun k hk' _ => hk.fix k ((fun k hk' => est2_fix hk' (fun h => h) (fun h => h)) k hk')))) (LvS.all (LvS.same hvs (fun k hk' _ => hk.fix k ((fun k hk' => est2_fix hk' (fun h => h) (fun h => h)) k hk')))) hnv (by have := of_decide_eq_false hbig; omega)).mono ?_)
    intro e w' h
    exact got_lv h
  · refine ⟨⟨fun τ => stableE_det _, leans_not⟩, ?_⟩
    intro a w O hk
    have e2 : a.eval (.tmp 2) = .pointer (some ⟨b, 0, none⟩) := (hk.init 2 (initialB_of_nw nw2)).trans hi2
    have e8 : a.eval (.tmp 8) = .bool false := hk.fact 3 _ 8 rfl rfl rfl rfl
    have x2 := hk.world.still hxl (fun ⟨_, h⟩ => h.elim And.right And.right)
    exact obE_loadRow rfl e2 x2 Try.underlying24 rfl (by kernel_rfl) (wanted_of rfl rfl rfl e8) rfl
  · refine ⟨⟨fun τ => stableE_det _, leans_not⟩, ?_⟩
    intro a w O hk
    have e1 : a.eval (.tmp 1) = .slice Av nv cv := (hk.init 1 (initialB_of_nw nw1)).trans hi1
    have e8 : a.eval (.tmp 8) = .bool false := hk.fact 3 _ 8 rfl rfl rfl rfl
    exact toE (ob_move rfl e1 (wanted_of rfl rfl rfl e8) rfl)
  · refine ⟨⟨fun τ => stableE_lv (fun k hk' => est2_fix hk' (fun h => h) (fun h => h)), leans_not⟩, ?_⟩
    intro a w O hk
    have e12 : a.eval (.tmp 12) = lvV Al cl ll := hk.fact 7 _ 12 rfl rfl rfl rfl
    have e13 : a.eval (.tmp 13) = .slice Av nv cv := hk.fact 8 _ 13 rfl rfl rfl rfl
    have e8 : a.eval (.tmp 8) = .bool false := hk.fact 3 _ 8 rfl rfl rfl rfl
    refine obE_call #[lvV Al cl ll, .slice Av nv cv] Try.func24 rfl rfl rfl (by simp only [List.map_cons, List.map_nil]; rw [e12, e13]) (wanted_of rfl rfl rfl e8) ((refInst_calls Al cl ll Av nv cv vs w (LvS.all (LvS.same hinl (fun k hk' _ => hk.fix k ((fun k hk' => est2_fix hk' (fun h => h) (fun h => h)) k hk')))) (LvS.all (LvS.same hvs (fun k hk' _ => hk.fix k ((fun k hk' => est2_fix hk' (fun h => h) (fun h => h)) k hk')))) hnv).mono ?_)
    intro e w' h
    exact got_lv h
  · refine ⟨⟨fun τ => stableE_det _, leans_not⟩, ?_⟩
    intro a w O hk
    have f11 := hk.fact 6 _ 11 rfl rfl rfl rfl
    have g11 := hk.owns 6 rfl rfl
    have f14 := hk.fact 9 _ 14 rfl rfl rfl rfl
    have g14 := hk.owns 9 rfl rfl
    have e8 : a.eval (.tmp 8) = .bool false := hk.fact 3 _ 8 rfl rfl rfl rfl
    exact obE_lvSame rfl (wanted_of rfl rfl rfl e8) (show LvV (fun k => k < w0.heap.size) (instL vs ll) (a.eval (.tmp 11)) w (O 6) from f11) (show LvV (fun k => k < w0.heap.size) (instL vs ll) (a.eval (.tmp 14)) w (O 9) from f14) (inst_sz vs ll) (sim_refl _)
  · refine ⟨⟨fun τ => stableE_det _, leans_not⟩, ?_⟩
    intro a w O hk
    have e15 : a.eval (.tmp 15) = .bool true := hk.fact 10 _ 15 rfl rfl rfl rfl
    have e8 : a.eval (.tmp 8) = .bool false := hk.fact 3 _ 8 rfl rfl rfl rfl
    exact toE (ob_move rfl e15 (wanted_of rfl rfl rfl e8) rfl)
  · refine ⟨⟨fun τ => stableE_det _, leans_not⟩, ?_⟩
    intro a w O hk
    have e16 : a.eval (.tmp 16) = .bool true := hk.fact 11 _ 16 rfl rfl rfl rfl
    exact obE_awake rfl (wanted_of rfl rfl rfl e16)
  · refine ⟨⟨fun τ => stableE_det _, leans_not⟩, ?_⟩
    intro a w O hk
    have e16 : a.eval (.tmp 16) = .bool true := hk.fact 11 _ 16 rfl rfl rfl rfl
    have e17 : a.eval (.tmp 17) = .bool true := hk.fact 12 _ 17 rfl rfl rfl rfl
    have e8 : a.eval (.tmp 8) = .bool false := hk.fact 3 _ 8 rfl rfl rfl rfl
    exact toE (ob_pick rfl e16 e17 (wanted_of rfl rfl rfl e8) rfl)
  · refine ⟨⟨fun τ => stableE_det _, leans_not⟩, ?_⟩
    intro a w O hk
    have e8 : a.eval (.tmp 8) = .bool false := hk.fact 3 _ 8 rfl rfl rfl rfl
    have e18 : a.eval (.tmp 18) = .bool true := hk.fact 13 _ 18 rfl rfl rfl rfl
    exact toE (ob_pick rfl e8 e18 (wanted_none rfl) rfl)
  · refine ⟨⟨fun τ => stableE_det _, leans_not⟩, ?_⟩
    intro a w O hk
    have e19 : a.eval (.tmp 19) = .bool true := hk.fact 14 _ 19 rfl rfl rfl rfl
    exact toE (ob_assign rfl e19 (wanted_none rfl) rfl)
set_option maxRecDepth 100000 in
set_option maxHeartbeats 8000000 in
theorem li0_region {Q : Exit → Act → World → Prop} {id : Nat} (w0 : World) (b : Nat) (Al Av : Option Addr) (cl nv cv : Nat) (ll : Lv) (vs : List Lv) {s0 s3 s4 s5 s6 s7 s8 s9 s10 s11 s12 s13 s14 s15 s16 s17 s18 s19 : Value} (hxl : w0.heap[b]? = some (.cells #[.int .i64 ll.kind, .int .i64 ll.num, .slice Al ll.kids.length cl] 24 (0, 0))) (hinl : LvS w0 (fun k => k < w0.heap.size) Al cl ll) (hvs : LvS w0 (fun k => k < w0.heap.size) Av cv (.mk 0 0 vs)) (hnv : nv = vs.length) (hbig : decide ((50 : Int) < (nv : Int)) = false)
    (hend : ∀ (w' : World) (u11 : Value) (u14 : Value) (O6 : Nat → Prop) (O9 : Nat → Prop), Chg (fun k => False ∨ False) w0 w' → (LvV (fun k => k < w0.heap.size) (instL vs ll) u11 w' O6) → (∀ k, O6 k → k < w'.heap.size ∧ ¬ Fix w0 (est2 0 0 (fun _ => False) (fun _ => False)) k) → (LvV (fun k => k < w0.heap.size) (instL vs ll) u14 w' O9) → (∀ k, O9 k → k < w'.heap.size ∧ ¬ Fix w0 (est2 0 0 (fun _ => False) (fun _ => False)) k) → Q .normal { tmps := (s0 :: (.slice Av nv cv : Value) :: (.pointer (some ⟨b, 0, none⟩) : Value) :: s3 :: (.bool true : Value) :: (.slice Av nv cv : Value) :: (.int .i64 nv : Value) :: (.bool false : Value) :: (.bool false : Value) :: (lvV Al cl ll : Value) :: (.slice Av nv cv : Value) :: u11 :: (lvV Al cl ll : Value) :: (.slice Av nv cv : Value) :: u14 :: (.bool true : Value) :: (.bool true : Value) :: (.bool true : Value) :: (.bool true : Value) :: (.bool true : Value) :: ([] : List Value)).toArray, defers := [] } w') :
    (Code.region id li0_ops.toArray true).wp Try.prog Q { tmps := (s0 :: (.slice Av nv cv : Value) :: (.pointer (some ⟨b, 0, none⟩) : Value) :: s3 :: s4 :: s5 :: s6 :: s7 :: s8 :: s9 :: s10 :: s11 :: s12 :: s13 :: s14 :: s15 :: s16 :: s17 :: s18 :: s19 :: ([] : List Value)).toArray, defers := [] } w0 := by
  refine wp_region_est (by kernel_rfl) (est2 0 0 (fun _ => False) (fun _ => False)) li0_C (li0_F w0 b Al Av cl nv cv ll vs) (est2_dis (fun _ h _ => h)) (est2_range (fun _ h => h.elim) (fun _ h => h.elim)) (by rfl) (by kernel_rfl) (li0_obs w0.drew b Al Av cl nv cv ll vs hxl (LvS.later hinl (below_drew (Below.refl _ _))) (LvS.later hvs (below_drew (Below.refl _ _))) hnv hbig _ _ rfl rfl) ?_
  intro a w' O hd hs hb hf hf2 ha hsame
  have hx : ∀ (qi : Nat) (qv : Value), nwB li0_ops.toArray qi = true → (s0 :: (.slice Av nv cv : Value) :: (.pointer (some ⟨b, 0, none⟩) : Value) :: s3 :: s4 :: s5 :: s6 :: s7 :: s8 :: s9 :: s10 :: s11 :: s12 :: s13 :: s14 :: s15 :: s16 :: s17 :: s18 :: s19 :: ([] : List Value)).toArray.getD qi undef = qv → a.tmps.getD qi undef = qv := fun qi qv h e => (hsame qi (nwB.spec h)).trans e
  have x0 := hx 0 s0 (by kernel_rfl) rfl
  have x1 := hx 1 (.slice Av nv cv) (by kernel_rfl) rfl
  have x2 := hx 2 (.pointer (some ⟨b, 0, none⟩)) (by kernel_rfl) rfl
  have x3 := hx 3 s3 (by kernel_rfl) rfl
  have x4 : a.tmps.getD 4 undef = .bool true := (hf 15 _ 4 rfl rfl (by decide)).1
  have x5 : a.tmps.getD 5 undef = .slice Av nv cv := (hf 0 _ 5 rfl rfl (by decide)).1
  have x6 : a.tmps.getD 6 undef = .int .i64 nv := (hf 1 _ 6 rfl rfl (by decide)).1
  have x7 : a.tmps.getD 7 undef = .bool false := (hf 2 _ 7 rfl rfl (by decide)).1
  have x8 : a.tmps.getD 8 undef = .bool false := (hf 3 _ 8 rfl rfl (by decide)).1
  have x9 : a.tmps.getD 9 undef = lvV Al cl ll := (hf 4 _ 9 rfl rfl (by decide)).1
  have x10 : a.tmps.getD 10 undef = .slice Av nv cv := (hf 5 _ 10 rfl rfl (by decide)).1
  have x12 : a.tmps.getD 12 undef = lvV Al cl ll := (hf 7 _ 12 rfl rfl (by decide)).1
  have x13 : a.tmps.getD 13 undef = .slice Av nv cv := (hf 8 _ 13 rfl rfl (by decide)).1
  have x15 : a.tmps.getD 15 undef = .bool true := (hf 10 _ 15 rfl rfl (by decide)).1
  have x16 : a.tmps.getD 16 undef = .bool true := (hf 11 _ 16 rfl rfl (by decide)).1
  have x17 : a.tmps.getD 17 undef = .bool true := (hf 12 _ 17 rfl rfl (by decide)).1
  have x18 : a.tmps.getD 18 undef = .bool true := (hf 13 _ 18 rfl rfl (by decide)).1
  have x19 : a.tmps.getD 19 undef = .bool true := (hf 14 _ 19 rfl rfl (by decide)).1
  have hl : a.tmps = (s0 :: (.slice Av nv cv : Value) :: (.pointer (some ⟨b, 0, none⟩) : Value) :: s3 :: (.bool true : Value) :: (.slice Av nv cv : Value) :: (.int .i64 nv : Value) :: (.bool false : Value) :: (.bool false : Value) :: (lvV Al cl ll : Value) :: (.slice Av nv cv : Value) :: (a.tmps.getD 11 undef : Value) :: (lvV Al cl ll : Value) :: (.slice Av nv cv : Value) :: (a.tmps.getD 14 undef : Value) :: (.bool true : Value) :: (.bool true : Value) :: (.bool true : Value) :: (.bool true : Value) :: (.bool true : Value) :: ([] : List Value)).toArray := by
    have h := lit a.tmps 20 hs
    have e : ((List.range 20).map (fun i => a.tmps.getD i undef)).toArray = ((a.tmps.getD 0 undef : Value) :: (a.tmps.getD 1 undef : Value) :: (a.tmps.getD 2 undef : Value) :: (a.tmps.getD 3 undef : Value) :: (a.tmps.getD 4 undef : Value) :: (a.tmps.getD 5 undef : Value) :: (a.tmps.getD 6 undef : Value) :: (a.tmps.getD 7 undef : Value) :: (a.tmps.getD 8 undef : Value) :: (a.tmps.getD 9 undef : Value) :: (a.tmps.getD 10 undef : Value) :: (a.tmps.getD 11 undef : Value) :: (a.tmps.getD 12 undef : Value) :: (a.tmps.getD 13 undef : Value) :: (a.tmps.getD 14 undef : Value) :: (a.tmps.getD 15 undef : Value) :: (a.tmps.getD 16 undef : Value) :: (a.tmps.getD 17 undef : Value) :: (a.tmps.getD 18 undef : Value) :: (a.tmps.getD 19 undef : Value) :: ([] : List Value)).toArray := rfl
    rw [e, x0, x1, x2, x3, x4, x5, x6, x7, x8, x9, x10, x12, x13, x15, x16, x17, x18, x19] at h
    exact h
  obtain ⟨tmps, defers⟩ := a
  obtain rfl : defers = [] := hd
  have hl' : tmps = _ := hl
  rw [hl']
  have hb' := est2_chg hb
  exact hend w' _ _ (O 6) (O 9) ⟨hb'.os, hb'.tape, hb'.output, hb'.size, hb'.block⟩ (hf 6 _ 11 rfl rfl (by decide)).1 (hf 6 _ 11 rfl rfl (by decide)).2 (hf 9 _ 14 rfl rfl (by decide)).1 (hf 9 _ 14 rfl rfl (by decide)).2

def li1_F (w0 : World) (b : Nat) (Al Av : Option Addr) (cl nv cv : Nat) (ll : Lv) (vs : List Lv) : Nat → (Nat → Value) → Value → World → (Nat → Prop) → Prop := fun rix => match rix with
  | 0 => fun _ v _ _ => v = .slice Av nv cv
  | 1 => fun _ v _ _ => v = .int .i64 nv
  | 2 => fun _ v _ _ => v = .bool true
  | 3 => fun _ v _ _ => v = .bool true
  | 4 => fun _ v _ _ => v = undef
  | 5 => fun _ v _ _ => v = undef
  | 6 => fun _ v _ _ => v = undef
  | 7 => fun _ v _ _ => v = undef
  | 8 => fun _ v _ _ => v = undef
  | 9 => fun _ v _ _ => v = undef
  | 10 => fun _ v _ _ => v = undef
  | 11 => fun _ v _ _ => v = undef
  | 12 => fun _ v _ _ => v = undef
  | 13 => fun _ v _ _ => v = undef
  | 14 => fun _ v _ _ => v = .bool true
  | 15 => fun _ v _ _ => v = .bool true
  | _ => fun _ _ _ _ => True
def li1_C : Nat → List Nat := fun rix => match rix with
  | _ => []
theorem li1_nw1 : nwB li0_ops.toArray 1 = true := by kernel_rfl
theorem li1_nw2 : nwB li0_ops.toArray 2 = true := by kernel_rfl
set_option maxRecDepth 100000 in
set_option maxHeartbeats 8000000 in
theorem li1_obs (w0 : World) (b : Nat) (Al Av : Option Addr) (cl nv cv : Nat) (ll : Lv) (vs : List Lv) (hxl : w0.heap[b]? = some (.cells #[.int .i64 ll.kind, .int .i64 ll.num, .slice Al ll.kids.length cl] 24 (0, 0))) (hinl : LvS w0 (fun k => k < w0.heap.size) Al cl ll) (hvs : LvS w0 (fun k => k < w0.heap.size) Av cv (.mk 0 0 vs)) (hnv : nv = vs.length) (hbig : decide ((50 : Int) < (nv : Int)) = true) (Q : Exit → Act → World → Prop) (a0 : Act) (hi1 : a0.tmps.getD 1 undef = .slice Av nv cv) (hi2 : a0.tmps.getD 2 undef = .pointer (some ⟨b, 0, none⟩)) :
    ObsE Try.prog li0_ops.toArray Q (est2 0 0 (fun _ => False) (fun _ => False)) li1_C (li1_F w0 b Al Av cl nv cv ll vs) a0 w0 li0_ops.toArray.toList 0 := by
  have nw1 := li1_nw1
  have nw2 := li1_nw2
  refine ⟨?_, ?_, ?_, ?_, ?_, ?_, ?_, ?_, ?_, ?_, ?_, ?_, ?_, ?_, ?_, ?_, trivial⟩
  · refine ⟨⟨fun τ => stableE_det _, leans_not⟩, ?_⟩
    intro a w O hk
    have e1 : a.eval (.tmp 1) = .slice Av nv cv := (hk.init 1 (initialB_of_nw nw1)).trans hi1
    exact toE (ob_move rfl e1 (wanted_none rfl) rfl)
  · refine ⟨⟨fun τ => stableE_det _, leans_not⟩, ?_⟩
    intro a w O hk
    have e5 : a.eval (.tmp 5) = .slice Av nv cv := hk.fact 0 _ 5 rfl rfl rfl rfl
    exact toE (ob_len rfl e5 Try.underlying22 (wanted_none rfl) rfl)
  · refine ⟨⟨fun τ => stableE_det _, leans_not⟩, ?_⟩
    intro a w O hk
    have e6 : a.eval (.tmp 6) = .int .i64 nv := hk.fact 1 _ 6 rfl rfl rfl rfl
    exact toE (ob_bin rfl e6 rfl (run_gtrB _ _ true hbig) (by decide) (wanted_none rfl) rfl)
  · refine ⟨⟨fun τ => stableE_det _, leans_not⟩, ?_⟩
    intro a w O hk
    have e7 : a.eval (.tmp 7) = .bool true := hk.fact 2 _ 7 rfl rfl rfl rfl
    exact toE (ob_move rfl e7 (wanted_none rfl) rfl)
  · refine ⟨⟨fun τ => stableE_det _, leans_not⟩, ?_⟩
    intro a w O hk
    have e2 : a.eval (.tmp 2) = .pointer (some ⟨b, 0, none⟩) := (hk.init 2 (initialB_of_nw nw2)).trans hi2
    have e8 : a.eval (.tmp 8) = .bool true := hk.fact 3 _ 8 rfl rfl rfl rfl
    exact toE (ob_skip (unwanted_of rfl rfl rfl e8 (by decide)) rfl)
  · refine ⟨⟨fun τ => stableE_det _, leans_not⟩, ?_⟩
    intro a w O hk
    have e1 : a.eval (.tmp 1) = .slice Av nv cv := (hk.init 1 (initialB_of_nw nw1)).trans hi1
    have e8 : a.eval (.tmp 8) = .bool true := hk.fact 3 _ 8 rfl rfl rfl rfl
    exact toE (ob_skip (unwanted_of rfl rfl rfl e8 (by decide)) rfl)
  · refine ⟨⟨fun τ => stableE_det _, leans_not⟩, ?_⟩
    intro a w O hk
    have e9 : a.eval (.tmp 9) = undef := hk.fact 4 _ 9 rfl rfl rfl rfl
    have e10 : a.eval (.tmp 10) = undef := hk.fact 5 _ 10 rfl rfl rfl rfl
    have e8 : a.eval (.tmp 8) = .bool true := hk.fact 3 _ 8 rfl rfl rfl rfl
    exact toE (ob_skip (unwanted_of rfl rfl rfl e8 (by decide)) rfl)
  · refine ⟨⟨fun τ => stableE_det _, leans_not⟩, ?_⟩
    intro a w O hk
    have e2 : a.eval (.tmp 2) = .pointer (some ⟨b, 0, none⟩) := (hk.init 2 (initialB_of_nw nw2)).trans hi2
    have e8 : a.eval (.tmp 8) = .bool true := hk.fact 3 _ 8 rfl rfl rfl rfl
    exact toE (ob_skip (unwanted_of rfl rfl rfl e8 (by decide)) rfl)
  · refine ⟨⟨fun τ => stableE_det _, leans_not⟩, ?_⟩
    intro a w O hk
    have e1 : a.eval (.tmp 1) = .slice Av nv cv := (hk.init 1 (initialB_of_nw nw1)).trans hi1
    have e8 : a.eval (.tmp 8) = .bool true := hk.fact 3 _ 8 rfl rfl rfl rfl
    exact toE (ob_skip (unwanted_of rfl rfl rfl e8 (by decide)) rfl)
  · refine ⟨⟨fun τ => stableE_det _, leans_not⟩, ?_⟩
    intro a w O hk
    have e12 : a.eval (.tmp 12) = undef := hk.fact 7 _ 12 rfl rfl rfl rfl
    have e13 : a.eval (.tmp 13) = undef := hk.fact 8 _ 13 rfl rfl rfl rfl
    have e8 : a.eval (.tmp 8) = .bool true := hk.fact 3 _ 8 rfl rfl rfl rfl
    exact toE (ob_skip (unwanted_of rfl rfl rfl e8 (by decide)) rfl)
  · refine ⟨⟨fun τ => stableE_det _, leans_not⟩, ?_⟩
    intro a w O hk
    have e11 : a.eval (.tmp 11) = undef := hk.fact 6 _ 11 rfl rfl rfl rfl
    have e14 : a.eval (.tmp 14) = undef := hk.fact 9 _ 14 rfl rfl rfl rfl
    have e8 : a.eval (.tmp 8) = .bool true := hk.fact 3 _ 8 rfl rfl rfl rfl
    exact toE (ob_skip (unwanted_of rfl rfl rfl e8 (by decide)) rfl)
  · refine ⟨⟨fun τ => stableE_det _, leans_not⟩, ?_⟩
    intro a w O hk
    have e15 : a.eval (.tmp 15) = undef := hk.fact 10 _ 15 rfl rfl rfl rfl
    have e8 : a.eval (.tmp 8) = .bool true := hk.fact 3 _ 8 rfl rfl rfl rfl
    exact toE (ob_skip (unwanted_of rfl rfl rfl e8 (by decide)) rfl)
  · refine ⟨⟨fun τ => stableE_det _, leans_not⟩, ?_⟩
    intro a w O hk
    have e16 : a.eval (.tmp 16) = undef := hk.fact 11 _ 16 rfl rfl rfl rfl
    exact toE (ob_skip (unwanted_of_skipped rfl rfl rfl e16) rfl)
  · refine ⟨⟨fun τ => stableE_det _, leans_not⟩, ?_⟩
    intro a w O hk
    have e16 : a.eval (.tmp 16) = undef := hk.fact 11 _ 16 rfl rfl rfl rfl
    have e17 : a.eval (.tmp 17) = undef := hk.fact 12 _ 17 rfl rfl rfl rfl
    have e8 : a.eval (.tmp 8) = .bool true := hk.fact 3 _ 8 rfl rfl rfl rfl
    exact toE (ob_skip (unwanted_of rfl rfl rfl e8 (by decide)) rfl)
  · refine ⟨⟨fun τ => stableE_det _, leans_not⟩, ?_⟩
    intro a w O hk
    have e8 : a.eval (.tmp 8) = .bool true := hk.fact 3 _ 8 rfl rfl rfl rfl
    have e18 : a.eval (.tmp 18) = undef := hk.fact 13 _ 18 rfl rfl rfl rfl
    exact toE (ob_pick rfl e8 rfl (wanted_none rfl) rfl)
  · refine ⟨⟨fun τ => stableE_det _, leans_not⟩, ?_⟩
    intro a w O hk
    have e19 : a.eval (.tmp 19) = .bool true := hk.fact 14 _ 19 rfl rfl rfl rfl
    exact toE (ob_assign rfl e19 (wanted_none rfl) rfl)
set_option maxRecDepth 100000 in
set_option maxHeartbeats 8000000 in
theorem li1_region {Q : Exit → Act → World → Prop} {id : Nat} (w0 : World) (b : Nat) (Al Av : Option Addr) (cl nv cv : Nat) (ll : Lv) (vs : List Lv) {s0 s3 s4 s5 s6 s7 s8 s9 s10 s11 s12 s13 s14 s15 s16 s17 s18 s19 : Value} (hxl : w0.heap[b]? = some (.cells #[.int .i64 ll.kind, .int .i64 ll.num, .slice Al ll.kids.length cl] 24 (0, 0))) (hinl : LvS w0 (fun k => k < w0.heap.size) Al cl ll) (hvs : LvS w0 (fun k => k < w0.heap.size) Av cv (.mk 0 0 vs)) (hnv : nv = vs.length) (hbig : decide ((50 : Int) < (nv : Int)) = true)
    (hend : ∀ (w' : World), Chg (fun k => False ∨ False) w0 w' → Q .normal { tmps := (s0 :: (.slice Av nv cv : Value) :: (.pointer (some ⟨b, 0, none⟩) : Value) :: s3 :: (.bool true : Value) :: (.slice Av nv cv : Value) :: (.int .i64 nv : Value) :: (.bool true : Value) :: (.bool true : Value) :: undef :: undef :: undef :: undef :: undef :: undef :: undef :: undef :: undef :: undef :: (.bool true : Value) :: ([] : List Value)).toArray, defers := [] } w') :
    (Code.region id li0_ops.toArray true).wp Try.prog Q { tmps := (s0 :: (.slice Av nv cv : Value) :: (.pointer (some ⟨b, 0, none⟩) : Value) :: s3 :: s4 :: s5 :: s6 :: s7 :: s8 :: s9 :: s10 :: s11 :: s12 :: s13 :: s14 :: s15 :: s16 :: s17 :: s18 :: s19 :: ([] : List Value)).toArray, defers := [] } w0 := by
  refine wp_region_est (by kernel_rfl) (est2 0 0 (fun _ => False) (fun _ => False)) li1_C (li1_F w0 b Al Av cl nv cv ll vs) (est2_dis (fun _ h _ => h)) (est2_range (fun _ h => h.elim) (fun _ h => h.elim)) (by rfl) (by kernel_rfl) (li1_obs w0.drew b Al Av cl nv cv ll vs hxl (LvS.later hinl (below_drew (Below.refl _ _))) (LvS.later hvs (below_drew (Below.refl _ _))) hnv hbig _ _ rfl rfl) ?_
  intro a w' O hd hs hb hf hf2 ha hsame
  have hx : ∀ (qi : Nat) (qv : Value), nwB li0_ops.toArray qi = true → (s0 :: (.slice Av nv cv : Value) :: (.pointer (some ⟨b, 0, none⟩) : Value) :: s3 :: s4 :: s5 :: s6 :: s7 :: s8 :: s9 :: s10 :: s11 :: s12 :: s13 :: s14 :: s15 :: s16 :: s17 :: s18 :: s19 :: ([] : List Value)).toArray.getD qi undef = qv → a.tmps.getD qi undef = qv := fun qi qv h e => (hsame qi (nwB.spec h)).trans e
  have x0 := hx 0 s0 (by kernel_rfl) rfl
  have x1 := hx 1 (.slice Av nv cv) (by kernel_rfl) rfl
  have x2 := hx 2 (.pointer (some ⟨b, 0, none⟩)) (by kernel_rfl) rfl
  have x3 := hx 3 s3 (by kernel_rfl) rfl
  have x4 : a.tmps.getD 4 undef = .bool true := (hf 15 _ 4 rfl rfl (by decide)).1
  have x5 : a.tmps.getD 5 undef = .slice Av nv cv := (hf 0 _ 5 rfl rfl (by decide)).1
  have x6 : a.tmps.getD 6 undef = .int .i64 nv := (hf 1 _ 6 rfl rfl (by decide)).1
  have x7 : a.tmps.getD 7 undef = .bool true := (hf 2 _ 7 rfl rfl (by decide)).1
  have x8 : a.tmps.getD 8 undef = .bool true := (hf 3 _ 8 rfl rfl (by decide)).1
  have x9 : a.tmps.getD 9 undef = undef := (hf 4 _ 9 rfl rfl (by decide)).1
  have x10 : a.tmps.getD 10 undef = undef := (hf 5 _ 10 rfl rfl (by decide)).1
  have x11 : a.tmps.getD 11 undef = undef := (hf 6 _ 11 rfl rfl (by decide)).1
  have x12 : a.tmps.getD 12 undef = undef := (hf 7 _ 12 rfl rfl (by decide)).1
  have x13 : a.tmps.getD 13 undef = undef := (hf 8 _ 13 rfl rfl (by decide)).1
  have x14 : a.tmps.getD 14 undef = undef := (hf 9 _ 14 rfl rfl (by decide)).1
  have x15 : a.tmps.getD 15 undef = undef := (hf 10 _ 15 rfl rfl (by decide)).1
  have x16 : a.tmps.getD 16 undef = undef := (hf 11 _ 16 rfl rfl (by decide)).1
  have x17 : a.tmps.getD 17 undef = undef := (hf 12 _ 17 rfl rfl (by decide)).1
  have x18 : a.tmps.getD 18 undef = undef := (hf 13 _ 18 rfl rfl (by decide)).1
  have x19 : a.tmps.getD 19 undef = .bool true := (hf 14 _ 19 rfl rfl (by decide)).1
  have hl : a.tmps = (s0 :: (.slice Av nv cv : Value) :: (.pointer (some ⟨b, 0, none⟩) : Value) :: s3 :: (.bool true : Value) :: (.slice Av nv cv : Value) :: (.int .i64 nv : Value) :: (.bool true : Value) :: (.bool true : Value) :: undef :: undef :: undef :: undef :: undef :: undef :: undef :: undef :: undef :: undef :: (.bool true : Value) :: ([] : List Value)).toArray := by
    have h := lit a.tmps 20 hs
    have e : ((List.range 20).map (fun i => a.tmps.getD i undef)).toArray = ((a.tmps.getD 0 undef : Value) :: (a.tmps.getD 1 undef : Value) :: (a.tmps.getD 2 undef : Value) :: (a.tmps.getD 3 undef : Value) :: (a.tmps.getD 4 undef : Value) :: (a.tmps.getD 5 undef : Value) :: (a.tmps.getD 6 undef : Value) :: (a.tmps.getD 7 undef : Value) :: (a.tmps.getD 8 undef : Value) :: (a.tmps.getD 9 undef : Value) :: (a.tmps.getD 10 undef : Value) :: (a.tmps.getD 11 undef : Value) :: (a.tmps.getD 12 undef : Value) :: (a.tmps.getD 13 undef : Value) :: (a.tmps.getD 14 undef : Value) :: (a.tmps.getD 15 undef : Value) :: (a.tmps.getD 16 undef : Value) :: (a.tmps.getD 17 undef : Value) :: (a.tmps.getD 18 undef : Value) :: (a.tmps.getD 19 undef : Value) :: ([] : List Value)).toArray := rfl
    rw [e, x0, x1, x2, x3, x4, x5, x6, x7, x8, x9, x10, x11, x12, x13, x14, x15, x16, x17, x18, x19] at h
    exact h
  obtain ⟨tmps, defers⟩ := a
  obtain rfl : defers = [] := hd
  have hl' : tmps = _ := hl
  rw [hl']
  have hb' := est2_chg hb
  exact hend w' ⟨hb'.os, hb'.tape, hb'.output, hb'.size, hb'.block⟩

set_option maxHeartbeats 4000000 in
theorem instLaw_calls (A V : Option Addr) (c nv cv : Nat) (l : Lv) (vs : List Lv) (w : World) (ha : LvIn w w.heap.size A c l) (hv : LvIn w w.heap.size V cv (.mk 0 0 vs)) (hnv : nv = vs.length) :
    Calls Try.prog 7 #[lvV A c l, .slice V nv cv] w fun e w' => e = .returned (.bool true) ∧ Below w.heap.size w w' := by
  have HA := Aside0.mk ha
  have HV := Aside0.mk hv
  have HNV := Aside0.mk hnv
  have HW := Aside0.mk (show Below w.heap.size w (w.alloc (.cells #[.int .i64 l.kind, .int .i64 l.num, .slice A l.kids.length c] 24 (0, 0))) from below_alloc (Below.refl _ _) _)
  have HX := Aside0.mk (blk_new w (.cells #[.int .i64 l.kind, .int .i64 l.num, .slice A l.kids.length c] 24 (0, 0)))
  clear ha hv hnv
  unfold lvV
  go_enter Try.func7, Try.ntmps7
  go_upto_region 1 with (fail)
  cases hb : decide ((50 : Int) < (nv : Int)) with
  | true =>
    refine li1_region _ w.heap.size A V c nv cv l vs HX.out (lv_old HA.out HW.out) (lv_old HV.out HW.out) HNV.out hb ?_
    intro w2 hch
    have HB2 := Aside0.mk (below_then HW.out HW.out.size (hch.below (fun _ h => h.elim False.elim False.elim) (Nat.le_refl _)))
    clear hch hb
    go_wp2
    go_ret
    exact ⟨rfl, HB2.out⟩
  | false =>
    refine li0_region _ w.heap.size A V c nv cv l vs HX.out (lv_old HA.out HW.out) (lv_old HV.out HW.out) HNV.out hb ?_
    intro w2 u11 u14 O6 O9 hch _ _ _ _
    have HB2 := Aside0.mk (below_then HW.out HW.out.size (hch.below (fun _ h => h.elim False.elim False.elim) (Nat.le_refl _)))
    clear hch hb
    go_wp2
    go_ret
    exact ⟨rfl, HB2.out⟩
end Go.Proofs.Ytjlhbaohippidaa

/-! LvIn -/
namespace Go.Proofs.Ytjlhbaohippidaa
open Go.RowKit Go.Proofs.YtjlhbaohippidaaW.PrintWords Go.RegionInvYtjlhbaohippidaa Go.ChangeShapes Go.WideShapes Go.Deep

instance : Inhabited Lv := ⟨.mk 0 0 []⟩
theorem lv_open {H : Type} {enc : TypeId × Value → H} {W : World} {base : Nat} {sp : Nat → Bool} {held : Bool} (F : Nat) : ∀ (fuel : Nat), fuel ≤ F → ∀ (cs : List Value) (x : DataW H × List MemPlace),
    DataW.trod enc Try.prog W base sp held fuel 24 cs = some x → ∃ (l : Lv) (A : Option Addr) (c : Nat), cs = [.int .i64 l.kind, .int .i64 l.num, .slice A l.kids.length c] ∧ LvS W (fun _ => True) A c l ∧ (Lit.int .i64 l.kind).wf = true ∧ (Lit.int .i64 l.num).wf = true := by
  induction F with
  | zero =>
    intro fuel hF cs x h
    obtain ⟨xs, n, hn, _⟩ := DataW.trod_struct Try.underlying24 h
    omega
  | succ F ih =>
    intro fuel hF cs x h
    obtain ⟨xs, n, hn, hx, hl, hxl, hf⟩ := DataW.trod_struct Try.underlying24 h
    have hl3 : cs.length = 3 := by rw [hl]; kernel_rfl
    match xs, hxl, cs, hl3 with
    | [y0, y1, y2], _, [v0, v1, v2], _ =>
      have g0 : DataW.trod enc Try.prog W base sp held n 3 [v0] = some y0 := hf 0 _ rfl
      have g1 : DataW.trod enc Try.prog W base sp held n 3 [v1] = some y1 := hf 1 _ rfl
      have g2 : DataW.trod enc Try.prog W base sp held n 22 [v2] = some y2 := hf 2 _ rfl
      obtain ⟨k, e0, _, w0⟩ := DataW.trod_int Try.underlying3 g0
      obtain ⟨m, e1, _, w1⟩ := DataW.trod_int Try.underlying3 g1
      obtain rfl : v0 = .int .i64 k := by simpa using e0
      obtain rfl : v1 = .int .i64 m := by simpa using e1
      rcases DataW.trod_slice Try.underlying22 g2 with ⟨e2, _⟩ | ⟨a, len, cap, elems, rest, n', hn', e2, _, _, hle, hm, hlen, hel, _, _⟩
      · obtain rfl : v2 = .slice none 0 0 := by simpa using e2
        exact ⟨.mk k m [], none, 0, rfl, .mk (fun _ => none) (fun _ => 0) (by simp) (by omega) (fun i x hx => by simp at hx) (fun i x hx => by simp at hx), w0, w1⟩
      · obtain rfl : v2 = .slice (some a) len cap := by simpa using e2
        have hc3 : Try.prog.cellsOf 24 = 3 := by kernel_rfl
        rw [hc3] at hel
        have each : ∀ i, i < len → ∃ q : Lv × Option Addr × Nat, W.cells? base (a.add (i * 3)) 3 = some [.int .i64 q.1.kind, .int .i64 q.1.num, .slice q.2.1 q.1.kids.length q.2.2] ∧ LvS W (fun _ => True) q.2.1 q.2.2 q.1 := by
          intro i hi
          have hq := hel i hi
          rw [List.getElem?_eq_getElem (by omega)] at hq
          obtain ⟨cs', h1, h2⟩ := Option.bind_eq_some_iff.1 hq
          obtain ⟨l, A, c, rfl, h3, _⟩ := ih n' (by omega) cs' _ h2
          exact ⟨(l, A, c), h1, h3⟩
        obtain ⟨q, hq⟩ := choose_lt each
        have hcell : ∀ i, i < len → ∀ j, j < 3 → W.cell? ((a.add (i * 3)).add j) = ([.int .i64 (q i).1.kind, .int .i64 (q i).1.num, .slice (q i).2.1 (q i).1.kids.length (q i).2.2] : List Value)[j]? := fun i hi j hj => (World.cells?_some (hq i hi).1).2.2 j hj
        have hget : ∀ (i : Nat) (x : Lv), ((List.range len).map fun i => (q i).1)[i]? = some x → i < len ∧ x = (q i).1 := by
          intro i x hx
          have hi : i < len := by
            rcases Nat.lt_or_ge i len with h | h
            · exact h
            · rw [List.getElem?_eq_none (by simpa using h)] at hx; cases hx
          rw [List.getElem?_map, List.getElem?_range hi] at hx
          exact ⟨hi, (Option.some.inj hx).symm⟩
        refine ⟨.mk k m ((List.range len).map fun i => (q i).1), some a, cap, by simp [Lv.kind, Lv.num, Lv.kids], .mk (fun i => (q i).2.1) (fun i => (q i).2.2) (by simpa using hle) (by simp only [maxLen] at hm; omega) (fun i x hx => ?_) (fun i x hx => ?_), w0, w1⟩
        · obtain ⟨hi, rfl⟩ := hget i x hx
          have hsp : a.spot = none := by
            have h0 := hcell 0 (by omega) 0 (by omega)
            simp only [Nat.zero_mul, Addr.add, if_true] at h0
            cases hs : a.spot with
            | none => rfl
            | some z => simp [World.cell?, hs] at h0; split at h0 <;> simp at h0
          obtain ⟨b, o, z⟩ := a
          obtain rfl : z = none := hsp
          have c0 := hcell i hi 0 (by omega)
          have c1 := hcell i hi 1 (by omega)
          have c2 := hcell i hi 2 (by omega)
          simp only [add_flat] at c0 c1 c2
          exact ⟨_, rfl, trivial, rfl, by rw [add_flat]; exact c0, by rw [add_flat]; exact c1, by rw [add_flat]; exact c2⟩
        · obtain ⟨hi, rfl⟩ := hget i x hx
          exact (hq i hi).2
theorem lv_in {H : Type} {enc : TypeId × Value → H} {W : World} {base : Nat} {sp : Nat → Bool} {held : Bool} {v : Value} {d : DataW H} {ps : List MemPlace} {r : Reach} {b0 : Nat} (hv : Value.okWide Try.prog W r b0 24 v) (h : DataW.Trod enc Try.prog W base sp held 24 v d ps) :
    ∃ (l : Lv) (A : Option Addr) (c : Nat), v = lvV A c l ∧ LvS W (fun _ => True) A c l ∧ (Lit.int .i64 l.kind).wf = true ∧ (Lit.int .i64 l.num).wf = true := by
  obtain ⟨cs, rfl, hcs⟩ := okWide_struct Try.underlying24 hv
  obtain ⟨fuel, hf⟩ := h
  obtain ⟨l, A, c, he, hl, hk, hn⟩ := lv_open fuel fuel (Nat.le_refl _) _ _ hf
  refine ⟨l, A, c, ?_, hl, hk, hn⟩
  unfold lvV
  congr 1
  apply Array.toList_inj.1
  simpa [Value.cells] using he
end Go.Proofs.Ytjlhbaohippidaa

/-! LvsIn -/
namespace Go.Proofs.Ytjlhbaohippidaa
open Go.RowKit Go.Proofs.YtjlhbaohippidaaW.PrintWords Go.RegionInvYtjlhbaohippidaa Go.ChangeShapes Go.WideShapes Go.Deep

theorem lvs_open {H : Type} {enc : TypeId × Value → H} {W : World} {base : Nat} {sp : Nat → Bool} {held : Bool} {fuel : Nat} {v2 : Value} {y2 : DataW H × List MemPlace} (g2 : DataW.trod enc Try.prog W base sp held fuel 22 [v2] = some y2) :
    ∃ (vs : List Lv) (A : Option Addr) (c : Nat), v2 = .slice A vs.length c ∧ LvS W (fun _ => True) A c (.mk 0 0 vs) := by
  rcases DataW.trod_slice Try.underlying22 g2 with ⟨e2, _⟩ | ⟨a, len, cap, elems, rest, n', hn', e2, _, _, hle, hm, hlen, hel, _, _⟩
  · obtain rfl : v2 = .slice none 0 0 := by simpa using e2
    exact ⟨[], none, 0, rfl, .mk (fun _ => none) (fun _ => 0) (by simp) (by omega) (fun i x hx => by simp at hx) (fun i x hx => by simp at hx)⟩
  · obtain rfl : v2 = .slice (some a) len cap := by simpa using e2
    have hc3 : Try.prog.cellsOf 24 = 3 := by kernel_rfl
    rw [hc3] at hel
    have each : ∀ i, i < len → ∃ q : Lv × Option Addr × Nat, W.cells? base (a.add (i * 3)) 3 = some [.int .i64 q.1.kind, .int .i64 q.1.num, .slice q.2.1 q.1.kids.length q.2.2] ∧ LvS W (fun _ => True) q.2.1 q.2.2 q.1 := by
      intro i hi
      have hq := hel i hi
      rw [List.getElem?_eq_getElem (by omega)] at hq
      obtain ⟨cs', h1, h2⟩ := Option.bind_eq_some_iff.1 hq
      obtain ⟨l, A, c, rfl, h3, _⟩ := lv_open n' n' (Nat.le_refl _) cs' _ h2
      exact ⟨(l, A, c), h1, h3⟩
    obtain ⟨q, hq⟩ := choose_lt each
    have hcell : ∀ i, i < len → ∀ j, j < 3 → W.cell? ((a.add (i * 3)).add j) = ([.int .i64 (q i).1.kind, .int .i64 (q i).1.num, .slice (q i).2.1 (q i).1.kids.length (q i).2.2] : List Value)[j]? := fun i hi j hj => (World.cells?_some (hq i hi).1).2.2 j hj
    have hget : ∀ (i : Nat) (x : Lv), ((List.range len).map fun i => (q i).1)[i]? = some x → i < len ∧ x = (q i).1 := by
      intro i x hx
      have hi : i < len := by
        rcases Nat.lt_or_ge i len with h | h
        · exact h
        · rw [List.getElem?_eq_none (by simpa using h)] at hx; cases hx
      rw [List.getElem?_map, List.getElem?_range hi] at hx
      exact ⟨hi, (Option.some.inj hx).symm⟩
    refine ⟨(List.range len).map fun i => (q i).1, some a, cap, by simp, .mk (fun i => (q i).2.1) (fun i => (q i).2.2) (by simpa using hle) (by simp only [maxLen] at hm; omega) (fun i x hx => ?_) (fun i x hx => ?_)⟩
    · obtain ⟨hi, rfl⟩ := hget i x hx
      have hsp : a.spot = none := by
        have h0 := hcell 0 (by omega) 0 (by omega)
        simp only [Nat.zero_mul, Addr.add, if_true] at h0
        cases hs : a.spot with
        | none => rfl
        | some z => simp [World.cell?, hs] at h0; split at h0 <;> simp at h0
      obtain ⟨b, o, z⟩ := a
      obtain rfl : z = none := hsp
      have c0 := hcell i hi 0 (by omega)
      have c1 := hcell i hi 1 (by omega)
      have c2 := hcell i hi 2 (by omega)
      simp only [add_flat] at c0 c1 c2
      exact ⟨_, rfl, trivial, rfl, by rw [add_flat]; exact c0, by rw [add_flat]; exact c1, by rw [add_flat]; exact c2⟩
    · obtain ⟨hi, rfl⟩ := hget i x hx
      exact (hq i hi).2
theorem lvs_in {H : Type} {enc : TypeId × Value → H} {W : World} {base : Nat} {sp : Nat → Bool} {held : Bool} {v : Value} {d : DataW H} {ps : List MemPlace} {r : Reach} {b0 : Nat} (hv : Value.okWide Try.prog W r b0 22 v) (h : DataW.Trod enc Try.prog W base sp held 22 v d ps) :
    ∃ (vs : List Lv) (A : Option Addr) (c n : Nat), v = .slice A n c ∧ n = vs.length ∧ LvS W (fun _ => True) A c (.mk 0 0 vs) := by
  obtain ⟨a, len, cap, rfl⟩ := okWide_slice Try.underlying22 hv
  obtain ⟨fuel, hf⟩ := h
  obtain ⟨vs, A, c, he, hl⟩ := lvs_open (v2 := .slice a len cap) hf
  exact ⟨vs, A, c, _, he, rfl, hl⟩
end Go.Proofs.Ytjlhbaohippidaa
