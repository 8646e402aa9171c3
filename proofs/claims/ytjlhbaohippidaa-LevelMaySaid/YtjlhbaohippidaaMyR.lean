/-
  The region of the law LevelMay.
-/
import Derived.Test.YtjlhbaohippidaaOpsV
import Derived.Test.YtjlhbaohippidaaRefMay
namespace Go.Proofs.Ytjlhbaohippidaa
open Go.RowKit Go.Proofs.YtjlhbaohippidaaW.PrintWords Go.RegionInvYtjlhbaohippidaa Go.RegionEYtjlhbaohippidaa
set_option linter.unusedVariables false

def my_ops : List Oper := [
  { dst := some 5, op := Go.Op.load 24 (Go.Operand.tmp 2), type := 24, pos := "law.go:19", after := #[], guard := none },
  { dst := some 6, op := Go.Op.move (Go.Operand.tmp 1), type := 3, pos := "law.go:19", after := #[], guard := none },
  { dst := some 7, op := Go.Op.call { callee := Go.Callee.value (Go.Operand.func 11), args := #[Go.Operand.tmp 5, Go.Operand.tmp 6], argTypes := #[24, 3] }, type := 25, pos := "law.go:19", after := #[{ on := 0, ground := Go.Ground.data }, { on := 1, ground := Go.Ground.data }], guard := none },
  { dst := some 8, op := Go.Op.load 24 (Go.Operand.tmp 2), type := 24, pos := "law.go:19", after := #[], guard := none },
  { dst := some 9, op := Go.Op.move (Go.Operand.tmp 1), type := 3, pos := "law.go:19", after := #[], guard := none },
  { dst := some 10, op := Go.Op.call { callee := Go.Callee.value (Go.Operand.func 12), args := #[Go.Operand.tmp 8, Go.Operand.tmp 9], argTypes := #[24, 3] }, type := 25, pos := "law.go:19", after := #[{ on := 3, ground := Go.Ground.data }, { on := 4, ground := Go.Ground.data }, { on := 2, ground := Go.Ground.chain }], guard := none },
  { dst := some 11, op := Go.Op.binOp Go.BinOp.eql 25 (Go.Operand.tmp 7) (Go.Operand.tmp 10) 25, type := 4, pos := "law.go:19", after := #[{ on := 2, ground := Go.Ground.data }, { on := 5, ground := Go.Ground.data }], guard := none },
  { dst := some 12, op := Go.Op.move (Go.Operand.tmp 11), type := 4, pos := "law.go:19", after := #[{ on := 6, ground := Go.Ground.data }, { on := 5, ground := Go.Ground.chain }], guard := none },
  { dst := some 13, op := Go.Op.call { callee := Go.Callee.value (Go.Operand.func 13), args := #[], argTypes := #[] }, type := 4, pos := "law.go:19", after := #[{ on := 7, ground := Go.Ground.chain }, { on := 7, ground := Go.Ground.guard }], guard := some (7, true) },
  { dst := some 14, op := Go.Op.pick (Go.Operand.tmp 12) (Go.Operand.tmp 13) (Go.Operand.const (Go.Value.bool false)), type := 4, pos := "law.go:19", after := #[{ on := 7, ground := Go.Ground.data }, { on := 8, ground := Go.Ground.data }], guard := none },
  { dst := some 4, op := Go.Op.assign (Go.Operand.tmp 14), type := 4, pos := "law.go:19", after := #[{ on := 9, ground := Go.Ground.data }, { on := 8, ground := Go.Ground.chain }, { on := 0, ground := Go.Ground.phase }, { on := 1, ground := Go.Ground.phase }, { on := 2, ground := Go.Ground.phase }, { on := 3, ground := Go.Ground.phase }, { on := 4, ground := Go.Ground.phase }, { on := 5, ground := Go.Ground.phase }, { on := 6, ground := Go.Ground.phase }, { on := 7, ground := Go.Ground.phase }, { on := 8, ground := Go.Ground.phase }, { on := 9, ground := Go.Ground.phase }], guard := none }]
def my_F (w0 : World) (b : Nat) (Aa : Option Addr) (ca : Nat) (la : Lv) (nv : Int) : Nat → (Nat → Value) → Value → World → (Nat → Prop) → Prop := fun rix => match rix with
  | 0 => fun _ v _ _ => v = lvV Aa ca la
  | 1 => fun _ v _ _ => v = .int .i64 nv
  | 2 => fun _ v _ _ => v = .int .i64 (mayB nv la)
  | 3 => fun _ v _ _ => v = lvV Aa ca la
  | 4 => fun _ v _ _ => v = .int .i64 nv
  | 5 => fun _ v _ _ => v = .int .i64 (mayB nv la)
  | 6 => fun _ v _ _ => v = .bool true
  | 7 => fun _ v _ _ => v = .bool true
  | 8 => fun _ v _ _ => v = .bool true
  | 9 => fun _ v _ _ => v = .bool true
  | 10 => fun _ v _ _ => v = .bool true
  | _ => fun _ _ _ _ => True
def my_C : Nat → List Nat := fun rix => match rix with
  | _ => []
theorem my_nw1 : nwB my_ops.toArray 1 = true := by kernel_rfl
theorem my_nw2 : nwB my_ops.toArray 2 = true := by kernel_rfl
set_option maxRecDepth 100000 in
set_option maxHeartbeats 8000000 in
theorem my_obs (w0 : World) (b : Nat) (Aa : Option Addr) (ca : Nat) (la : Lv) (nv : Int) (hxa : w0.heap[b]? = some (.cells #[.int .i64 la.kind, .int .i64 la.num, .slice Aa la.kids.length ca] 24 (0, 0))) (hina : LvS w0 (fun k => k < w0.heap.size) Aa ca la) (Q : Exit → Act → World → Prop) (a0 : Act) (hi1 : a0.tmps.getD 1 undef = .int .i64 nv) (hi2 : a0.tmps.getD 2 undef = .pointer (some ⟨b, 0, none⟩)) :
    ObsE Try.prog my_ops.toArray Q (est2 0 0 (fun _ => False) (fun _ => False)) my_C (my_F w0 b Aa ca la nv) a0 w0 my_ops.toArray.toList 0 := by
  have nw1 := my_nw1
  have nw2 := my_nw2
  refine ⟨?_, ?_, ?_, ?_, ?_, ?_, ?_, ?_, ?_, ?_, ?_, trivial⟩
  · refine ⟨⟨fun τ => stableE_det _, leans_not⟩, ?_⟩
    intro a w O hk
    have e2 : a.eval (.tmp 2) = .pointer (some ⟨b, 0, none⟩) := (hk.init 2 (initialB_of_nw nw2)).trans hi2
    have x2 := hk.world.still hxa (fun ⟨_, h⟩ => h.elim And.right And.right)
    exact obE_loadRow rfl e2 x2 Try.underlying24 rfl (by kernel_rfl) (wanted_none rfl) rfl
  · refine ⟨⟨fun τ => stableE_det _, leans_not⟩, ?_⟩
    intro a w O hk
    have e1 : a.eval (.tmp 1) = .int .i64 nv := (hk.init 1 (initialB_of_nw nw1)).trans hi1
    exact toE (ob_move rfl e1 (wanted_none rfl) rfl)
  · refine ⟨⟨fun τ => stableE_det _, leans_not⟩, ?_⟩
    intro a w O hk
    have e5 : a.eval (.tmp 5) = lvV Aa ca la := hk.fact 0 _ 5 rfl rfl rfl rfl
    have e6 : a.eval (.tmp 6) = .int .i64 nv := hk.fact 1 _ 6 rfl rfl rfl rfl
    have x2 := hk.world.still hxa (fun ⟨_, h⟩ => h.elim And.right And.right)
    exact obE_callV #[lvV Aa ca la, .int .i64 nv] rfl rfl rfl rfl (by simp only [List.map_cons, List.map_nil]; rw [e5, e6]) (wanted_none rfl) (may_calls Aa ca la nv w (LvS.all (LvS.same hina (fun k hk' _ => hk.fix k ((fun k hk' => est2_fix hk' (fun h => h) (fun h => h)) k hk')))))
  · refine ⟨⟨fun τ => stableE_det _, leans_not⟩, ?_⟩
    intro a w O hk
    have e2 : a.eval (.tmp 2) = .pointer (some ⟨b, 0, none⟩) := (hk.init 2 (initialB_of_nw nw2)).trans hi2
    have x2 := hk.world.still hxa (fun ⟨_, h⟩ => h.elim And.right And.right)
    exact obE_loadRow rfl e2 x2 Try.underlying24 rfl (by kernel_rfl) (wanted_none rfl) rfl
  · refine ⟨⟨fun τ => stableE_det _, leans_not⟩, ?_⟩
    intro a w O hk
    have e1 : a.eval (.tmp 1) = .int .i64 nv := (hk.init 1 (initialB_of_nw nw1)).trans hi1
    exact toE (ob_move rfl e1 (wanted_none rfl) rfl)
  · refine ⟨⟨fun τ => stableE_det _, leans_not⟩, ?_⟩
    intro a w O hk
    have e8 : a.eval (.tmp 8) = lvV Aa ca la := hk.fact 3 _ 8 rfl rfl rfl rfl
    have e9 : a.eval (.tmp 9) = .int .i64 nv := hk.fact 4 _ 9 rfl rfl rfl rfl
    have x2 := hk.world.still hxa (fun ⟨_, h⟩ => h.elim And.right And.right)
    exact obE_callV #[lvV Aa ca la, .int .i64 nv] rfl rfl rfl rfl (by simp only [List.map_cons, List.map_nil]; rw [e8, e9]) (wanted_none rfl) (refMay_calls Aa ca la nv w (LvS.all (LvS.same hina (fun k hk' _ => hk.fix k ((fun k hk' => est2_fix hk' (fun h => h) (fun h => h)) k hk')))))
  · refine ⟨⟨fun τ => stableE_det _, leans_not⟩, ?_⟩
    intro a w O hk
    have e7 : a.eval (.tmp 7) = .int .i64 (mayB nv la) := hk.fact 2 _ 7 rfl rfl rfl rfl
    have e10 : a.eval (.tmp 10) = .int .i64 (mayB nv la) := hk.fact 5 _ 10 rfl rfl rfl rfl
    exact toE (ob_eqlInt true rfl e7 e10 (by simp) (wanted_none rfl) rfl)
  · refine ⟨⟨fun τ => stableE_det _, leans_not⟩, ?_⟩
    intro a w O hk
    have e11 : a.eval (.tmp 11) = .bool true := hk.fact 6 _ 11 rfl rfl rfl rfl
    exact toE (ob_move rfl e11 (wanted_none rfl) rfl)
  · refine ⟨⟨fun τ => stableE_det _, leans_not⟩, ?_⟩
    intro a w O hk
    have e12 : a.eval (.tmp 12) = .bool true := hk.fact 7 _ 12 rfl rfl rfl rfl
    have x2 := hk.world.still hxa (fun ⟨_, h⟩ => h.elim And.right And.right)
    exact obE_awake rfl (wanted_of rfl rfl rfl e12)
  · refine ⟨⟨fun τ => stableE_det _, leans_not⟩, ?_⟩
    intro a w O hk
    have e12 : a.eval (.tmp 12) = .bool true := hk.fact 7 _ 12 rfl rfl rfl rfl
    have e13 : a.eval (.tmp 13) = .bool true := hk.fact 8 _ 13 rfl rfl rfl rfl
    exact toE (ob_pick rfl e12 e13 (wanted_none rfl) rfl)
  · refine ⟨⟨fun τ => stableE_det _, leans_not⟩, ?_⟩
    intro a w O hk
    have e14 : a.eval (.tmp 14) = .bool true := hk.fact 9 _ 14 rfl rfl rfl rfl
    exact toE (ob_assign rfl e14 (wanted_none rfl) rfl)
set_option maxRecDepth 100000 in
set_option maxHeartbeats 8000000 in
theorem my_region {Q : Exit → Act → World → Prop} {id : Nat} (w0 : World) (b : Nat) (Aa : Option Addr) (ca : Nat) (la : Lv) (nv : Int) {s0 s3 s4 s5 s6 s7 s8 s9 s10 s11 s12 s13 s14 : Value} (hxa : w0.heap[b]? = some (.cells #[.int .i64 la.kind, .int .i64 la.num, .slice Aa la.kids.length ca] 24 (0, 0))) (hina : LvS w0 (fun k => k < w0.heap.size) Aa ca la)
    (hend : ∀ (w' : World), Chg (fun k => False ∨ False) w0 w' → Q .normal { tmps := (s0 :: (.int .i64 nv : Value) :: (.pointer (some ⟨b, 0, none⟩) : Value) :: s3 :: (.bool true : Value) :: (lvV Aa ca la : Value) :: (.int .i64 nv : Value) :: (.int .i64 (mayB nv la) : Value) :: (lvV Aa ca la : Value) :: (.int .i64 nv : Value) :: (.int .i64 (mayB nv la) : Value) :: (.bool true : Value) :: (.bool true : Value) :: (.bool true : Value) :: (.bool true : Value) :: ([] : List Value)).toArray, defers := [] } w') :
    (Code.region id my_ops.toArray true).wp Try.prog Q { tmps := (s0 :: (.int .i64 nv : Value) :: (.pointer (some ⟨b, 0, none⟩) : Value) :: s3 :: s4 :: s5 :: s6 :: s7 :: s8 :: s9 :: s10 :: s11 :: s12 :: s13 :: s14 :: ([] : List Value)).toArray, defers := [] } w0 := by
  refine wp_region_est (by kernel_rfl) (est2 0 0 (fun _ => False) (fun _ => False)) my_C (my_F w0 b Aa ca la nv) (est2_dis (fun _ h _ => h)) (est2_range (fun _ h => h.elim) (fun _ h => h.elim)) (by rfl) (by kernel_rfl) (my_obs w0.drew b Aa ca la nv hxa (LvS.later hina (below_drew (Below.refl _ _))) _ _ rfl rfl) ?_
  intro a w' O hd hs hb hf hf2 ha hsame
  have x0 : a.tmps.getD 0 undef = s0 := hsame 0 (nwB.spec (by kernel_rfl))
  have x1 : a.tmps.getD 1 undef = .int .i64 nv := hsame 1 (nwB.spec (by kernel_rfl))
  have x2 : a.tmps.getD 2 undef = .pointer (some ⟨b, 0, none⟩) := hsame 2 (nwB.spec (by kernel_rfl))
  have x3 : a.tmps.getD 3 undef = s3 := hsame 3 (nwB.spec (by kernel_rfl))
  have x4 : a.tmps.getD 4 undef = .bool true := (hf 10 _ 4 rfl rfl (by decide)).1
  have x5 : a.tmps.getD 5 undef = lvV Aa ca la := (hf 0 _ 5 rfl rfl (by decide)).1
  have x6 : a.tmps.getD 6 undef = .int .i64 nv := (hf 1 _ 6 rfl rfl (by decide)).1
  have x7 : a.tmps.getD 7 undef = .int .i64 (mayB nv la) := (hf 2 _ 7 rfl rfl (by decide)).1
  have x8 : a.tmps.getD 8 undef = lvV Aa ca la := (hf 3 _ 8 rfl rfl (by decide)).1
  have x9 : a.tmps.getD 9 undef = .int .i64 nv := (hf 4 _ 9 rfl rfl (by decide)).1
  have x10 : a.tmps.getD 10 undef = .int .i64 (mayB nv la) := (hf 5 _ 10 rfl rfl (by decide)).1
  have x11 : a.tmps.getD 11 undef = .bool true := (hf 6 _ 11 rfl rfl (by decide)).1
  have x12 : a.tmps.getD 12 undef = .bool true := (hf 7 _ 12 rfl rfl (by decide)).1
  have x13 : a.tmps.getD 13 undef = .bool true := (hf 8 _ 13 rfl rfl (by decide)).1
  have x14 : a.tmps.getD 14 undef = .bool true := (hf 9 _ 14 rfl rfl (by decide)).1
  have hl : a.tmps = (s0 :: (.int .i64 nv : Value) :: (.pointer (some ⟨b, 0, none⟩) : Value) :: s3 :: (.bool true : Value) :: (lvV Aa ca la : Value) :: (.int .i64 nv : Value) :: (.int .i64 (mayB nv la) : Value) :: (lvV Aa ca la : Value) :: (.int .i64 nv : Value) :: (.int .i64 (mayB nv la) : Value) :: (.bool true : Value) :: (.bool true : Value) :: (.bool true : Value) :: (.bool true : Value) :: ([] : List Value)).toArray := by
    have h := lit a.tmps 15 hs
    have e : ((List.range 15).map (fun i => a.tmps.getD i undef)).toArray = ((a.tmps.getD 0 undef : Value) :: (a.tmps.getD 1 undef : Value) :: (a.tmps.getD 2 undef : Value) :: (a.tmps.getD 3 undef : Value) :: (a.tmps.getD 4 undef : Value) :: (a.tmps.getD 5 undef : Value) :: (a.tmps.getD 6 undef : Value) :: (a.tmps.getD 7 undef : Value) :: (a.tmps.getD 8 undef : Value) :: (a.tmps.getD 9 undef : Value) :: (a.tmps.getD 10 undef : Value) :: (a.tmps.getD 11 undef : Value) :: (a.tmps.getD 12 undef : Value) :: (a.tmps.getD 13 undef : Value) :: (a.tmps.getD 14 undef : Value) :: ([] : List Value)).toArray := rfl
    rw [e, x0, x1, x2, x3, x4, x5, x6, x7, x8, x9, x10, x11, x12, x13, x14] at h
    exact h
  obtain ⟨tmps, defers⟩ := a
  obtain rfl : defers = [] := hd
  have hl' : tmps = _ := hl
  rw [hl']
  have hb' := est2_chg hb
  exact hend w' ⟨hb'.os, hb'.tape, hb'.output, hb'.size, hb'.block⟩

end Go.Proofs.Ytjlhbaohippidaa
