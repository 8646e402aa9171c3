/- One way alone: the region of the law's last test. -/
import Derived.Test.YtcgmfbefikpkbaaWireA
import Derived.Test.YtcgmfbefikpkbaaWireR
namespace Go.Proofs.Ytcgmfbefikpkbaa
open Go.RowKit Go.Proofs.YtcgmfbefikpkbaaW.PrintWords Go.RegionInvYtcgmfbefikpkbaa
set_option linter.unusedVariables false

def wbok_ops : List Oper := [
  { dst := some 84, op := Go.Op.move (Go.Operand.tmp 20), type := 24, pos := "law.go:109", after := #[], guard := none },
  { dst := some 85, op := Go.Op.binOp Go.BinOp.eql 24 (Go.Operand.tmp 84) (Go.Operand.const (Go.Value.int Go.IntKind.i64 0)) 24, type := 4, pos := "law.go:109", after := #[{ on := 0, ground := Go.Ground.data }], guard := none },
  { dst := some 86, op := Go.Op.move (Go.Operand.tmp 85), type := 4, pos := "law.go:109", after := #[{ on := 1, ground := Go.Ground.data }], guard := none },
  { dst := some 87, op := Go.Op.move (Go.Operand.tmp 18), type := 23, pos := "law.go:109", after := #[{ on := 2, ground := Go.Ground.guard }], guard := some (2, true) },
  { dst := some 88, op := Go.Op.call { callee := Go.Callee.value (Go.Operand.func 14), args := #[Go.Operand.const (Go.Value.slice none 0 0), Go.Operand.tmp 87], argTypes := #[22, 23] }, type := 22, pos := "law.go:109", after := #[{ on := 3, ground := Go.Ground.data }, { on := 2, ground := Go.Ground.chain }, { on := 2, ground := Go.Ground.guard }], guard := some (2, true) },
  { dst := some 89, op := Go.Op.convert 22 9 (Go.Operand.tmp 88), type := 9, pos := "law.go:109", after := #[{ on := 4, ground := Go.Ground.data }, { on := 2, ground := Go.Ground.guard }], guard := some (2, true) },
  { dst := some 90, op := Go.Op.move (Go.Operand.tmp 2), type := 22, pos := "law.go:109", after := #[{ on := 2, ground := Go.Ground.guard }], guard := some (2, true) },
  { dst := some 91, op := Go.Op.move (Go.Operand.tmp 19), type := 3, pos := "law.go:109", after := #[{ on := 2, ground := Go.Ground.guard }], guard := some (2, true) },
  { dst := some 92, op := Go.Op.slice 22 (Go.Operand.tmp 90) none (some (Go.Operand.tmp 91)) none, type := 22, pos := "law.go:109", after := #[{ on := 6, ground := Go.Ground.data }, { on := 7, ground := Go.Ground.data }, { on := 2, ground := Go.Ground.guard }], guard := some (2, true) },
  { dst := some 93, op := Go.Op.convert 22 9 (Go.Operand.tmp 92), type := 9, pos := "law.go:109", after := #[{ on := 8, ground := Go.Ground.data }, { on := 2, ground := Go.Ground.guard }], guard := some (2, true) },
  { dst := some 94, op := Go.Op.binOp Go.BinOp.neq 9 (Go.Operand.tmp 89) (Go.Operand.tmp 93) 9, type := 4, pos := "law.go:109", after := #[{ on := 5, ground := Go.Ground.data }, { on := 9, ground := Go.Ground.data }, { on := 2, ground := Go.Ground.guard }], guard := some (2, true) },
  { dst := some 95, op := Go.Op.pick (Go.Operand.tmp 86) (Go.Operand.tmp 94) (Go.Operand.const (Go.Value.bool false)), type := 4, pos := "law.go:109", after := #[{ on := 2, ground := Go.Ground.data }, { on := 10, ground := Go.Ground.data }], guard := none }]
def wbok_F (w0 : World) (A : Option Addr) (n c : Nat) (xs : List Int) : Nat → Value → World → (Nat → Prop) → Prop := fun i => match i with
  | 0 => fun v _ _ => v = .int .i64 (takeN xs).2.2
  | 1 => fun v _ _ => v = .bool true
  | 2 => fun v _ _ => v = .bool true
  | 3 => fun v _ _ => v = .int .u64 (takeN xs).1
  | 4 => fun v w O => OwnO w0.heap.size 5 1 (putN (takeN xs).1).length (nums .u8 (putN (takeN xs).1)) v w O
  | 5 => fun v _ _ => v = .string (strOfNums (putN (takeN xs).1))
  | 6 => fun v _ _ => v = .slice A n c
  | 7 => fun v _ _ => v = .int .i64 (takeN xs).2.1
  | 8 => fun v _ _ => v = .slice A (takeN xs).2.1.toNat c
  | 9 => fun v _ _ => v = .string (strOfNums (putN (takeN xs).1))
  | 10 => fun v _ _ => v = .bool false
  | 11 => fun v _ _ => v = .bool false
  | _ => fun _ _ _ => True
def wbok_C : Nat → List Nat := fun i => match i with
  | _ => []
theorem wbok_nw2 : nwB wbok_ops.toArray 2 = true := by kernel_rfl
theorem wbok_nw18 : nwB wbok_ops.toArray 18 = true := by kernel_rfl
theorem wbok_nw19 : nwB wbok_ops.toArray 19 = true := by kernel_rfl
theorem wbok_nw20 : nwB wbok_ops.toArray 20 = true := by kernel_rfl
set_option maxRecDepth 100000 in
set_option maxHeartbeats 4000000 in
theorem wbok_obs (w0 : World) (A : Option Addr) (n c : Nat) (xs : List Int) (hr : ReadsInt w0 .u8 A n xs) (hc : n ≤ c) (hB : Bytes xs) (hE : takeN xs = ((takeN xs).1, (takeN xs).2.1, 0)) (Q : Exit → Act → World → Prop) (a0 : Act) (hi2 : a0.tmps.getD 2 undef = .slice A n c) (hi18 : a0.tmps.getD 18 undef = .int .u64 (takeN xs).1) (hi19 : a0.tmps.getD 19 undef = .int .i64 (takeN xs).2.1) (hi20 : a0.tmps.getD 20 undef = .int .i64 (takeN xs).2.2) :
    Obs Try.prog wbok_ops.toArray Q w0.heap.size wbok_C (wbok_F w0 A n c xs) a0 w0 wbok_ops.toArray.toList 0 := by
  have nw2 := wbok_nw2
  have nw18 := wbok_nw18
  have nw19 := wbok_nw19
  have nw20 := wbok_nw20
  refine ⟨?_, ?_, ?_, ?_, ?_, ?_, ?_, ?_, ?_, ?_, ?_, ?_, trivial⟩
  · refine ⟨stable_det _, ?_⟩
    intro a w O hk
    have e20 : a.tmps.getD 20 undef = .int .i64 (takeN xs).2.2 := (hk.init 20 (initialB_of_nw nw20)).trans hi20
    exact ob_move rfl e20 (wanted_none rfl) rfl
  · refine ⟨stable_det _, ?_⟩
    intro a w O hk
    have e84 : a.tmps.getD 84 undef = .int .i64 (takeN xs).2.2 := hk.fact 0 _ 84 rfl rfl rfl rfl
    exact ob_eqlInt true rfl e84 rfl (by rw [hE]; simp) (wanted_none rfl) rfl
  · refine ⟨stable_det _, ?_⟩
    intro a w O hk
    have e85 : a.tmps.getD 85 undef = .bool true := hk.fact 1 _ 85 rfl rfl rfl rfl
    exact ob_move rfl e85 (wanted_none rfl) rfl
  · refine ⟨stable_det _, ?_⟩
    intro a w O hk
    have e18 : a.tmps.getD 18 undef = .int .u64 (takeN xs).1 := (hk.init 18 (initialB_of_nw nw18)).trans hi18
    have e86 : a.tmps.getD 86 undef = .bool true := hk.fact 2 _ 86 rfl rfl rfl rfl
    exact ob_move rfl e18 (wanted_of rfl rfl rfl e86) rfl
  · refine ⟨stable_own _ _ _ _, ?_⟩
    intro a w O hk
    have e87 : a.tmps.getD 87 undef = .int .u64 (takeN xs).1 := hk.fact 3 _ 87 rfl rfl rfl rfl
    have e86 : a.tmps.getD 86 undef = .bool true := hk.fact 2 _ 86 rfl rfl rfl rfl
    have ht := put_take hB hE
    refine ob_callFresh #[.slice none 0 0, .int .u64 (takeN xs).1] Try.func14 rfl rfl rfl (by show [Value.slice none 0 0, a.tmps.getD 87 undef] = [_, _]; rw [e87]) (wanted_of rfl rfl rfl e86) hk.base ?_
    exact put_calls none 0 0 [] _ w (reads_nil _ _) ht.2.1 ht.2.2.1 (by decide)
  · refine ⟨stable_det _, ?_⟩
    intro a w O hk
    have f88 := hk.fact 4 _ 88 rfl rfl rfl rfl
    have g88 := hk.owns 4 rfl rfl
    have e86 : a.tmps.getD 86 undef = .bool true := hk.fact 2 _ 86 rfl rfl rfl rfl
    exact ob_convert rfl rfl (own_string Try.underlying22 Try.underlying5 Try.underlying9 f88.1) (wanted_of rfl rfl rfl e86) rfl
  · refine ⟨stable_det _, ?_⟩
    intro a w O hk
    have e2 : a.tmps.getD 2 undef = .slice A n c := (hk.init 2 (initialB_of_nw nw2)).trans hi2
    have e86 : a.tmps.getD 86 undef = .bool true := hk.fact 2 _ 86 rfl rfl rfl rfl
    exact ob_move rfl e2 (wanted_of rfl rfl rfl e86) rfl
  · refine ⟨stable_det _, ?_⟩
    intro a w O hk
    have e19 : a.tmps.getD 19 undef = .int .i64 (takeN xs).2.1 := (hk.init 19 (initialB_of_nw nw19)).trans hi19
    have e86 : a.tmps.getD 86 undef = .bool true := hk.fact 2 _ 86 rfl rfl rfl rfl
    exact ob_move rfl e19 (wanted_of rfl rfl rfl e86) rfl
  · refine ⟨stable_det _, ?_⟩
    intro a w O hk
    have e90 : a.tmps.getD 90 undef = .slice A n c := hk.fact 6 _ 90 rfl rfl rfl rfl
    have e91 : a.tmps.getD 91 undef = .int .i64 (takeN xs).2.1 := hk.fact 7 _ 91 rfl rfl rfl rfl
    have e86 : a.tmps.getD 86 undef = .bool true := hk.fact 2 _ 86 rfl rfl rfl rfl
    have ht := put_take hB hE
    have hn := hr.1
    exact ob_sliceTo (by kernel_rfl) rfl e90 e91 (run_cut_to w _ (by omega) (by omega)) (wanted_of rfl rfl rfl e86) rfl
  · refine ⟨stable_det _, ?_⟩
    intro a w O hk
    have e92 : a.tmps.getD 92 undef = .slice A (takeN xs).2.1.toNat c := hk.fact 8 _ 92 rfl rfl rfl rfl
    have e86 : a.tmps.getD 86 undef = .bool true := hk.fact 2 _ 86 rfl rfl rfl rfl
    have ht := put_take hB hE
    have hn := hr.1
    refine ob_convert rfl e92 ?_ (wanted_of rfl rfl rfl e86) rfl
    rw [ht.1]
    exact string_of_reads Try.underlying22 Try.underlying5 Try.underlying9 ((hr.below hk.world).take_ _ (by omega))
  · refine ⟨stable_det _, ?_⟩
    intro a w O hk
    have e89 : a.tmps.getD 89 undef = .string (strOfNums (putN (takeN xs).1)) := hk.fact 5 _ 89 rfl rfl rfl rfl
    have e93 : a.tmps.getD 93 undef = .string (strOfNums (putN (takeN xs).1)) := hk.fact 9 _ 93 rfl rfl rfl rfl
    have e86 : a.tmps.getD 86 undef = .bool true := hk.fact 2 _ 86 rfl rfl rfl rfl
    exact ob_neqStr rfl e89 e93 rfl (wanted_of rfl rfl rfl e86) rfl
  · refine ⟨stable_det _, ?_⟩
    intro a w O hk
    have e86 : a.tmps.getD 86 undef = .bool true := hk.fact 2 _ 86 rfl rfl rfl rfl
    have e94 : a.tmps.getD 94 undef = .bool false := hk.fact 10 _ 94 rfl rfl rfl rfl
    exact ob_pick rfl e86 e94 (wanted_none rfl) rfl
set_option maxRecDepth 100000 in
set_option maxHeartbeats 4000000 in
theorem wbok_region {Q : Exit → Act → World → Prop} {id : Nat} (w0 : World) (A : Option Addr) (n c : Nat) (xs : List Int) {s0 s1 s3 s4 s5 s6 s7 s8 s9 s10 s11 s12 s13 s14 s15 s16 s17 s21 s22 s23 s24 s25 s26 s27 s28 s29 s30 s31 s32 s33 s34 s35 s36 s37 s38 s39 s40 s41 s42 s43 s44 s45 s46 s47 s48 s49 s50 s51 s52 s53 s54 s55 s56 s57 s58 s59 s60 s61 s62 s63 s64 s65 s66 s67 s68 s69 s70 s71 s72 s73 s74 s75 s76 s77 s78 s79 s80 s81 s82 s83 s84 s85 s86 s87 s88 s89 s90 s91 s92 s93 s94 s95 s96 : Value} (hr : ReadsInt w0 .u8 A n xs) (hc : n ≤ c) (hB : Bytes xs) (hE : takeN xs = ((takeN xs).1, (takeN xs).2.1, 0))
    (hend : ∀ (w' : World) (u88 : Value) (O88 : Nat → Prop), Below w0.heap.size w0 w' → (OwnO w0.heap.size 5 1 (putN (takeN xs).1).length (nums .u8 (putN (takeN xs).1)) u88 w' O88) → (∀ k, O88 k → w0.heap.size ≤ k ∧ k < w'.heap.size) → Q .normal { tmps := #[s0, s1, .slice A n c, s3, s4, s5, s6, s7, s8, s9, s10, s11, s12, s13, s14, s15, s16, s17, .int .u64 (takeN xs).1, .int .i64 (takeN xs).2.1, .int .i64 (takeN xs).2.2, s21, s22, s23, s24, s25, s26, s27, s28, s29, s30, s31, s32, s33, s34, s35, s36, s37, s38, s39, s40, s41, s42, s43, s44, s45, s46, s47, s48, s49, s50, s51, s52, s53, s54, s55, s56, s57, s58, s59, s60, s61, s62, s63, s64, s65, s66, s67, s68, s69, s70, s71, s72, s73, s74, s75, s76, s77, s78, s79, s80, s81, s82, s83, .int .i64 (takeN xs).2.2, .bool true, .bool true, .int .u64 (takeN xs).1, u88, .string (strOfNums (putN (takeN xs).1)), .slice A n c, .int .i64 (takeN xs).2.1, .slice A (takeN xs).2.1.toNat c, .string (strOfNums (putN (takeN xs).1)), .bool false, .bool false, s96], defers := [] } w') :
    (Code.region id wbok_ops.toArray true).wp Try.prog Q { tmps := #[s0, s1, .slice A n c, s3, s4, s5, s6, s7, s8, s9, s10, s11, s12, s13, s14, s15, s16, s17, .int .u64 (takeN xs).1, .int .i64 (takeN xs).2.1, .int .i64 (takeN xs).2.2, s21, s22, s23, s24, s25, s26, s27, s28, s29, s30, s31, s32, s33, s34, s35, s36, s37, s38, s39, s40, s41, s42, s43, s44, s45, s46, s47, s48, s49, s50, s51, s52, s53, s54, s55, s56, s57, s58, s59, s60, s61, s62, s63, s64, s65, s66, s67, s68, s69, s70, s71, s72, s73, s74, s75, s76, s77, s78, s79, s80, s81, s82, s83, s84, s85, s86, s87, s88, s89, s90, s91, s92, s93, s94, s95, s96], defers := [] } w0 := by
  refine wp_region_inv (by kernel_rfl) (w0.heap.size) wbok_C (wbok_F w0 A n c xs) (Nat.le_refl _) (by rfl) (by kernel_rfl) (wbok_obs w0.drew A n c xs hr hc hB hE _ _ rfl rfl rfl rfl) ?_
  intro a w' O hd hs hb hf hsame
  have x0 : a.tmps.getD 0 undef = s0 := hsame 0 (nwB.spec (by kernel_rfl))
  have x1 : a.tmps.getD 1 undef = s1 := hsame 1 (nwB.spec (by kernel_rfl))
  have x2 : a.tmps.getD 2 undef = .slice A n c := hsame 2 (nwB.spec (by kernel_rfl))
  have x3 : a.tmps.getD 3 undef = s3 := hsame 3 (nwB.spec (by kernel_rfl))
  have x4 : a.tmps.getD 4 undef = s4 := hsame 4 (nwB.spec (by kernel_rfl))
  have x5 : a.tmps.getD 5 undef = s5 := hsame 5 (nwB.spec (by kernel_rfl))
  have x6 : a.tmps.getD 6 undef = s6 := hsame 6 (nwB.spec (by kernel_rfl))
  have x7 : a.tmps.getD 7 undef = s7 := hsame 7 (nwB.spec (by kernel_rfl))
  have x8 : a.tmps.getD 8 undef = s8 := hsame 8 (nwB.spec (by kernel_rfl))
  have x9 : a.tmps.getD 9 undef = s9 := hsame 9 (nwB.spec (by kernel_rfl))
  have x10 : a.tmps.getD 10 undef = s10 := hsame 10 (nwB.spec (by kernel_rfl))
  have x11 : a.tmps.getD 11 undef = s11 := hsame 11 (nwB.spec (by kernel_rfl))
  have x12 : a.tmps.getD 12 undef = s12 := hsame 12 (nwB.spec (by kernel_rfl))
  have x13 : a.tmps.getD 13 undef = s13 := hsame 13 (nwB.spec (by kernel_rfl))
  have x14 : a.tmps.getD 14 undef = s14 := hsame 14 (nwB.spec (by kernel_rfl))
  have x15 : a.tmps.getD 15 undef = s15 := hsame 15 (nwB.spec (by kernel_rfl))
  have x16 : a.tmps.getD 16 undef = s16 := hsame 16 (nwB.spec (by kernel_rfl))
  have x17 : a.tmps.getD 17 undef = s17 := hsame 17 (nwB.spec (by kernel_rfl))
  have x18 : a.tmps.getD 18 undef = .int .u64 (takeN xs).1 := hsame 18 (nwB.spec (by kernel_rfl))
  have x19 : a.tmps.getD 19 undef = .int .i64 (takeN xs).2.1 := hsame 19 (nwB.spec (by kernel_rfl))
  have x20 : a.tmps.getD 20 undef = .int .i64 (takeN xs).2.2 := hsame 20 (nwB.spec (by kernel_rfl))
  have x21 : a.tmps.getD 21 undef = s21 := hsame 21 (nwB.spec (by kernel_rfl))
  have x22 : a.tmps.getD 22 undef = s22 := hsame 22 (nwB.spec (by kernel_rfl))
  have x23 : a.tmps.getD 23 undef = s23 := hsame 23 (nwB.spec (by kernel_rfl))
  have x24 : a.tmps.getD 24 undef = s24 := hsame 24 (nwB.spec (by kernel_rfl))
  have x25 : a.tmps.getD 25 undef = s25 := hsame 25 (nwB.spec (by kernel_rfl))
  have x26 : a.tmps.getD 26 undef = s26 := hsame 26 (nwB.spec (by kernel_rfl))
  have x27 : a.tmps.getD 27 undef = s27 := hsame 27 (nwB.spec (by kernel_rfl))
  have x28 : a.tmps.getD 28 undef = s28 := hsame 28 (nwB.spec (by kernel_rfl))
  have x29 : a.tmps.getD 29 undef = s29 := hsame 29 (nwB.spec (by kernel_rfl))
  have x30 : a.tmps.getD 30 undef = s30 := hsame 30 (nwB.spec (by kernel_rfl))
  have x31 : a.tmps.getD 31 undef = s31 := hsame 31 (nwB.spec (by kernel_rfl))
  have x32 : a.tmps.getD 32 undef = s32 := hsame 32 (nwB.spec (by kernel_rfl))
  have x33 : a.tmps.getD 33 undef = s33 := hsame 33 (nwB.spec (by kernel_rfl))
  have x34 : a.tmps.getD 34 undef = s34 := hsame 34 (nwB.spec (by kernel_rfl))
  have x35 : a.tmps.getD 35 undef = s35 := hsame 35 (nwB.spec (by kernel_rfl))
  have x36 : a.tmps.getD 36 undef = s36 := hsame 36 (nwB.spec (by kernel_rfl))
  have x37 : a.tmps.getD 37 undef = s37 := hsame 37 (nwB.spec (by kernel_rfl))
  have x38 : a.tmps.getD 38 undef = s38 := hsame 38 (nwB.spec (by kernel_rfl))
  have x39 : a.tmps.getD 39 undef = s39 := hsame 39 (nwB.spec (by kernel_rfl))
  have x40 : a.tmps.getD 40 undef = s40 := hsame 40 (nwB.spec (by kernel_rfl))
  have x41 : a.tmps.getD 41 undef = s41 := hsame 41 (nwB.spec (by kernel_rfl))
  have x42 : a.tmps.getD 42 undef = s42 := hsame 42 (nwB.spec (by kernel_rfl))
  have x43 : a.tmps.getD 43 undef = s43 := hsame 43 (nwB.spec (by kernel_rfl))
  have x44 : a.tmps.getD 44 undef = s44 := hsame 44 (nwB.spec (by kernel_rfl))
  have x45 : a.tmps.getD 45 undef = s45 := hsame 45 (nwB.spec (by kernel_rfl))
  have x46 : a.tmps.getD 46 undef = s46 := hsame 46 (nwB.spec (by kernel_rfl))
  have x47 : a.tmps.getD 47 undef = s47 := hsame 47 (nwB.spec (by kernel_rfl))
  have x48 : a.tmps.getD 48 undef = s48 := hsame 48 (nwB.spec (by kernel_rfl))
  have x49 : a.tmps.getD 49 undef = s49 := hsame 49 (nwB.spec (by kernel_rfl))
  have x50 : a.tmps.getD 50 undef = s50 := hsame 50 (nwB.spec (by kernel_rfl))
  have x51 : a.tmps.getD 51 undef = s51 := hsame 51 (nwB.spec (by kernel_rfl))
  have x52 : a.tmps.getD 52 undef = s52 := hsame 52 (nwB.spec (by kernel_rfl))
  have x53 : a.tmps.getD 53 undef = s53 := hsame 53 (nwB.spec (by kernel_rfl))
  have x54 : a.tmps.getD 54 undef = s54 := hsame 54 (nwB.spec (by kernel_rfl))
  have x55 : a.tmps.getD 55 undef = s55 := hsame 55 (nwB.spec (by kernel_rfl))
  have x56 : a.tmps.getD 56 undef = s56 := hsame 56 (nwB.spec (by kernel_rfl))
  have x57 : a.tmps.getD 57 undef = s57 := hsame 57 (nwB.spec (by kernel_rfl))
  have x58 : a.tmps.getD 58 undef = s58 := hsame 58 (nwB.spec (by kernel_rfl))
  have x59 : a.tmps.getD 59 undef = s59 := hsame 59 (nwB.spec (by kernel_rfl))
  have x60 : a.tmps.getD 60 undef = s60 := hsame 60 (nwB.spec (by kernel_rfl))
  have x61 : a.tmps.getD 61 undef = s61 := hsame 61 (nwB.spec (by kernel_rfl))
  have x62 : a.tmps.getD 62 undef = s62 := hsame 62 (nwB.spec (by kernel_rfl))
  have x63 : a.tmps.getD 63 undef = s63 := hsame 63 (nwB.spec (by kernel_rfl))
  have x64 : a.tmps.getD 64 undef = s64 := hsame 64 (nwB.spec (by kernel_rfl))
  have x65 : a.tmps.getD 65 undef = s65 := hsame 65 (nwB.spec (by kernel_rfl))
  have x66 : a.tmps.getD 66 undef = s66 := hsame 66 (nwB.spec (by kernel_rfl))
  have x67 : a.tmps.getD 67 undef = s67 := hsame 67 (nwB.spec (by kernel_rfl))
  have x68 : a.tmps.getD 68 undef = s68 := hsame 68 (nwB.spec (by kernel_rfl))
  have x69 : a.tmps.getD 69 undef = s69 := hsame 69 (nwB.spec (by kernel_rfl))
  have x70 : a.tmps.getD 70 undef = s70 := hsame 70 (nwB.spec (by kernel_rfl))
  have x71 : a.tmps.getD 71 undef = s71 := hsame 71 (nwB.spec (by kernel_rfl))
  have x72 : a.tmps.getD 72 undef = s72 := hsame 72 (nwB.spec (by kernel_rfl))
  have x73 : a.tmps.getD 73 undef = s73 := hsame 73 (nwB.spec (by kernel_rfl))
  have x74 : a.tmps.getD 74 undef = s74 := hsame 74 (nwB.spec (by kernel_rfl))
  have x75 : a.tmps.getD 75 undef = s75 := hsame 75 (nwB.spec (by kernel_rfl))
  have x76 : a.tmps.getD 76 undef = s76 := hsame 76 (nwB.spec (by kernel_rfl))
  have x77 : a.tmps.getD 77 undef = s77 := hsame 77 (nwB.spec (by kernel_rfl))
  have x78 : a.tmps.getD 78 undef = s78 := hsame 78 (nwB.spec (by kernel_rfl))
  have x79 : a.tmps.getD 79 undef = s79 := hsame 79 (nwB.spec (by kernel_rfl))
  have x80 : a.tmps.getD 80 undef = s80 := hsame 80 (nwB.spec (by kernel_rfl))
  have x81 : a.tmps.getD 81 undef = s81 := hsame 81 (nwB.spec (by kernel_rfl))
  have x82 : a.tmps.getD 82 undef = s82 := hsame 82 (nwB.spec (by kernel_rfl))
  have x83 : a.tmps.getD 83 undef = s83 := hsame 83 (nwB.spec (by kernel_rfl))
  have x84 : a.tmps.getD 84 undef = .int .i64 (takeN xs).2.2 := (hf 0 _ 84 rfl rfl (by decide)).1
  have x85 : a.tmps.getD 85 undef = .bool true := (hf 1 _ 85 rfl rfl (by decide)).1
  have x86 : a.tmps.getD 86 undef = .bool true := (hf 2 _ 86 rfl rfl (by decide)).1
  have x87 : a.tmps.getD 87 undef = .int .u64 (takeN xs).1 := (hf 3 _ 87 rfl rfl (by decide)).1
  have x89 : a.tmps.getD 89 undef = .string (strOfNums (putN (takeN xs).1)) := (hf 5 _ 89 rfl rfl (by decide)).1
  have x90 : a.tmps.getD 90 undef = .slice A n c := (hf 6 _ 90 rfl rfl (by decide)).1
  have x91 : a.tmps.getD 91 undef = .int .i64 (takeN xs).2.1 := (hf 7 _ 91 rfl rfl (by decide)).1
  have x92 : a.tmps.getD 92 undef = .slice A (takeN xs).2.1.toNat c := (hf 8 _ 92 rfl rfl (by decide)).1
  have x93 : a.tmps.getD 93 undef = .string (strOfNums (putN (takeN xs).1)) := (hf 9 _ 93 rfl rfl (by decide)).1
  have x94 : a.tmps.getD 94 undef = .bool false := (hf 10 _ 94 rfl rfl (by decide)).1
  have x95 : a.tmps.getD 95 undef = .bool false := (hf 11 _ 95 rfl rfl (by decide)).1
  have x96 : a.tmps.getD 96 undef = s96 := hsame 96 (nwB.spec (by kernel_rfl))
  have hl : a.tmps = #[s0, s1, .slice A n c, s3, s4, s5, s6, s7, s8, s9, s10, s11, s12, s13, s14, s15, s16, s17, .int .u64 (takeN xs).1, .int .i64 (takeN xs).2.1, .int .i64 (takeN xs).2.2, s21, s22, s23, s24, s25, s26, s27, s28, s29, s30, s31, s32, s33, s34, s35, s36, s37, s38, s39, s40, s41, s42, s43, s44, s45, s46, s47, s48, s49, s50, s51, s52, s53, s54, s55, s56, s57, s58, s59, s60, s61, s62, s63, s64, s65, s66, s67, s68, s69, s70, s71, s72, s73, s74, s75, s76, s77, s78, s79, s80, s81, s82, s83, .int .i64 (takeN xs).2.2, .bool true, .bool true, .int .u64 (takeN xs).1, a.tmps.getD 88 undef, .string (strOfNums (putN (takeN xs).1)), .slice A n c, .int .i64 (takeN xs).2.1, .slice A (takeN xs).2.1.toNat c, .string (strOfNums (putN (takeN xs).1)), .bool false, .bool false, s96] := by
    have h := lit a.tmps 97 hs
    have e : (List.range 97).map (fun i => a.tmps.getD i undef) = [a.tmps.getD 0 undef, a.tmps.getD 1 undef, a.tmps.getD 2 undef, a.tmps.getD 3 undef, a.tmps.getD 4 undef, a.tmps.getD 5 undef, a.tmps.getD 6 undef, a.tmps.getD 7 undef, a.tmps.getD 8 undef, a.tmps.getD 9 undef, a.tmps.getD 10 undef, a.tmps.getD 11 undef, a.tmps.getD 12 undef, a.tmps.getD 13 undef, a.tmps.getD 14 undef, a.tmps.getD 15 undef, a.tmps.getD 16 undef, a.tmps.getD 17 undef, a.tmps.getD 18 undef, a.tmps.getD 19 undef, a.tmps.getD 20 undef, a.tmps.getD 21 undef, a.tmps.getD 22 undef, a.tmps.getD 23 undef, a.tmps.getD 24 undef, a.tmps.getD 25 undef, a.tmps.getD 26 undef, a.tmps.getD 27 undef, a.tmps.getD 28 undef, a.tmps.getD 29 undef, a.tmps.getD 30 undef, a.tmps.getD 31 undef, a.tmps.getD 32 undef, a.tmps.getD 33 undef, a.tmps.getD 34 undef, a.tmps.getD 35 undef, a.tmps.getD 36 undef, a.tmps.getD 37 undef, a.tmps.getD 38 undef, a.tmps.getD 39 undef, a.tmps.getD 40 undef, a.tmps.getD 41 undef, a.tmps.getD 42 undef, a.tmps.getD 43 undef, a.tmps.getD 44 undef, a.tmps.getD 45 undef, a.tmps.getD 46 undef, a.tmps.getD 47 undef, a.tmps.getD 48 undef, a.tmps.getD 49 undef, a.tmps.getD 50 undef, a.tmps.getD 51 undef, a.tmps.getD 52 undef, a.tmps.getD 53 undef, a.tmps.getD 54 undef, a.tmps.getD 55 undef, a.tmps.getD 56 undef, a.tmps.getD 57 undef, a.tmps.getD 58 undef, a.tmps.getD 59 undef, a.tmps.getD 60 undef, a.tmps.getD 61 undef, a.tmps.getD 62 undef, a.tmps.getD 63 undef, a.tmps.getD 64 undef, a.tmps.getD 65 undef, a.tmps.getD 66 undef, a.tmps.getD 67 undef, a.tmps.getD 68 undef, a.tmps.getD 69 undef, a.tmps.getD 70 undef, a.tmps.getD 71 undef, a.tmps.getD 72 undef, a.tmps.getD 73 undef, a.tmps.getD 74 undef, a.tmps.getD 75 undef, a.tmps.getD 76 undef, a.tmps.getD 77 undef, a.tmps.getD 78 undef, a.tmps.getD 79 undef, a.tmps.getD 80 undef, a.tmps.getD 81 undef, a.tmps.getD 82 undef, a.tmps.getD 83 undef, a.tmps.getD 84 undef, a.tmps.getD 85 undef, a.tmps.getD 86 undef, a.tmps.getD 87 undef, a.tmps.getD 88 undef, a.tmps.getD 89 undef, a.tmps.getD 90 undef, a.tmps.getD 91 undef, a.tmps.getD 92 undef, a.tmps.getD 93 undef, a.tmps.getD 94 undef, a.tmps.getD 95 undef, a.tmps.getD 96 undef] := rfl
    rw [e, x0, x1, x2, x3, x4, x5, x6, x7, x8, x9, x10, x11, x12, x13, x14, x15, x16, x17, x18, x19, x20, x21, x22, x23, x24, x25, x26, x27, x28, x29, x30, x31, x32, x33, x34, x35, x36, x37, x38, x39, x40, x41, x42, x43, x44, x45, x46, x47, x48, x49, x50, x51, x52, x53, x54, x55, x56, x57, x58, x59, x60, x61, x62, x63, x64, x65, x66, x67, x68, x69, x70, x71, x72, x73, x74, x75, x76, x77, x78, x79, x80, x81, x82, x83, x84, x85, x86, x87, x89, x90, x91, x92, x93, x94, x95, x96] at h
    exact h
  obtain ⟨tmps, defers⟩ := a
  obtain rfl : defers = [] := hd
  have hl' : tmps = _ := hl
  rw [hl']
  exact hend w' _ (O 4) ⟨hb.os, hb.tape, hb.output, hb.size, hb.block⟩ (hf 4 _ 88 rfl rfl (by decide)).1 (hf 4 _ 88 rfl rfl (by decide)).2

def wbno_ops : List Oper := [
  { dst := some 84, op := Go.Op.move (Go.Operand.tmp 20), type := 24, pos := "law.go:109", after := #[], guard := none },
  { dst := some 85, op := Go.Op.binOp Go.BinOp.eql 24 (Go.Operand.tmp 84) (Go.Operand.const (Go.Value.int Go.IntKind.i64 0)) 24, type := 4, pos := "law.go:109", after := #[{ on := 0, ground := Go.Ground.data }], guard := none },
  { dst := some 86, op := Go.Op.move (Go.Operand.tmp 85), type := 4, pos := "law.go:109", after := #[{ on := 1, ground := Go.Ground.data }], guard := none },
  { dst := some 87, op := Go.Op.move (Go.Operand.tmp 18), type := 23, pos := "law.go:109", after := #[{ on := 2, ground := Go.Ground.guard }], guard := some (2, true) },
  { dst := some 88, op := Go.Op.call { callee := Go.Callee.value (Go.Operand.func 14), args := #[Go.Operand.const (Go.Value.slice none 0 0), Go.Operand.tmp 87], argTypes := #[22, 23] }, type := 22, pos := "law.go:109", after := #[{ on := 3, ground := Go.Ground.data }, { on := 2, ground := Go.Ground.chain }, { on := 2, ground := Go.Ground.guard }], guard := some (2, true) },
  { dst := some 89, op := Go.Op.convert 22 9 (Go.Operand.tmp 88), type := 9, pos := "law.go:109", after := #[{ on := 4, ground := Go.Ground.data }, { on := 2, ground := Go.Ground.guard }], guard := some (2, true) },
  { dst := some 90, op := Go.Op.move (Go.Operand.tmp 2), type := 22, pos := "law.go:109", after := #[{ on := 2, ground := Go.Ground.guard }], guard := some (2, true) },
  { dst := some 91, op := Go.Op.move (Go.Operand.tmp 19), type := 3, pos := "law.go:109", after := #[{ on := 2, ground := Go.Ground.guard }], guard := some (2, true) },
  { dst := some 92, op := Go.Op.slice 22 (Go.Operand.tmp 90) none (some (Go.Operand.tmp 91)) none, type := 22, pos := "law.go:109", after := #[{ on := 6, ground := Go.Ground.data }, { on := 7, ground := Go.Ground.data }, { on := 2, ground := Go.Ground.guard }], guard := some (2, true) },
  { dst := some 93, op := Go.Op.convert 22 9 (Go.Operand.tmp 92), type := 9, pos := "law.go:109", after := #[{ on := 8, ground := Go.Ground.data }, { on := 2, ground := Go.Ground.guard }], guard := some (2, true) },
  { dst := some 94, op := Go.Op.binOp Go.BinOp.neq 9 (Go.Operand.tmp 89) (Go.Operand.tmp 93) 9, type := 4, pos := "law.go:109", after := #[{ on := 5, ground := Go.Ground.data }, { on := 9, ground := Go.Ground.data }, { on := 2, ground := Go.Ground.guard }], guard := some (2, true) },
  { dst := some 95, op := Go.Op.pick (Go.Operand.tmp 86) (Go.Operand.tmp 94) (Go.Operand.const (Go.Value.bool false)), type := 4, pos := "law.go:109", after := #[{ on := 2, ground := Go.Ground.data }, { on := 10, ground := Go.Ground.data }], guard := none }]
def wbno_F (w0 : World) (A : Option Addr) (n c : Nat) (xs : List Int) : Nat → Value → World → (Nat → Prop) → Prop := fun i => match i with
  | 0 => fun v _ _ => v = .int .i64 (takeN xs).2.2
  | 1 => fun v _ _ => v = .bool false
  | 2 => fun v _ _ => v = .bool false
  | 3 => fun v _ _ => v = undef
  | 4 => fun v _ _ => v = undef
  | 5 => fun v _ _ => v = undef
  | 6 => fun v _ _ => v = undef
  | 7 => fun v _ _ => v = undef
  | 8 => fun v _ _ => v = undef
  | 9 => fun v _ _ => v = undef
  | 10 => fun v _ _ => v = undef
  | 11 => fun v _ _ => v = .bool false
  | _ => fun _ _ _ => True
def wbno_C : Nat → List Nat := fun i => match i with
  | _ => []
theorem wbno_nw2 : nwB wbno_ops.toArray 2 = true := by kernel_rfl
theorem wbno_nw18 : nwB wbno_ops.toArray 18 = true := by kernel_rfl
theorem wbno_nw19 : nwB wbno_ops.toArray 19 = true := by kernel_rfl
theorem wbno_nw20 : nwB wbno_ops.toArray 20 = true := by kernel_rfl
set_option maxRecDepth 100000 in
set_option maxHeartbeats 4000000 in
theorem wbno_obs (w0 : World) (A : Option Addr) (n c : Nat) (xs : List Int) (hr : ReadsInt w0 .u8 A n xs) (hc : n ≤ c) (hB : Bytes xs) (hE : (takeN xs).2.2 ≠ 0) (Q : Exit → Act → World → Prop) (a0 : Act) (hi2 : a0.tmps.getD 2 undef = .slice A n c) (hi18 : a0.tmps.getD 18 undef = .int .u64 (takeN xs).1) (hi19 : a0.tmps.getD 19 undef = .int .i64 (takeN xs).2.1) (hi20 : a0.tmps.getD 20 undef = .int .i64 (takeN xs).2.2) :
    Obs Try.prog wbno_ops.toArray Q w0.heap.size wbno_C (wbno_F w0 A n c xs) a0 w0 wbno_ops.toArray.toList 0 := by
  have nw2 := wbno_nw2
  have nw18 := wbno_nw18
  have nw19 := wbno_nw19
  have nw20 := wbno_nw20
  refine ⟨?_, ?_, ?_, ?_, ?_, ?_, ?_, ?_, ?_, ?_, ?_, ?_, trivial⟩
  · refine ⟨stable_det _, ?_⟩
    intro a w O hk
    have e20 : a.tmps.getD 20 undef = .int .i64 (takeN xs).2.2 := (hk.init 20 (initialB_of_nw nw20)).trans hi20
    exact ob_move rfl e20 (wanted_none rfl) rfl
  · refine ⟨stable_det _, ?_⟩
    intro a w O hk
    have e84 : a.tmps.getD 84 undef = .int .i64 (takeN xs).2.2 := hk.fact 0 _ 84 rfl rfl rfl rfl
    exact ob_eqlInt false rfl e84 rfl (by simp [hE]) (wanted_none rfl) rfl
  · refine ⟨stable_det _, ?_⟩
    intro a w O hk
    have e85 : a.tmps.getD 85 undef = .bool false := hk.fact 1 _ 85 rfl rfl rfl rfl
    exact ob_move rfl e85 (wanted_none rfl) rfl
  · refine ⟨stable_det _, ?_⟩
    intro a w O hk
    have e18 : a.tmps.getD 18 undef = .int .u64 (takeN xs).1 := (hk.init 18 (initialB_of_nw nw18)).trans hi18
    have e86 : a.tmps.getD 86 undef = .bool false := hk.fact 2 _ 86 rfl rfl rfl rfl
    exact ob_skip (unwanted_of rfl rfl rfl e86 (by decide)) rfl
  · refine ⟨stable_det _, ?_⟩
    intro a w O hk
    have e87 : a.tmps.getD 87 undef = undef := hk.fact 3 _ 87 rfl rfl rfl rfl
    have e86 : a.tmps.getD 86 undef = .bool false := hk.fact 2 _ 86 rfl rfl rfl rfl
    exact ob_skip (unwanted_of rfl rfl rfl e86 (by decide)) rfl
  · refine ⟨stable_det _, ?_⟩
    intro a w O hk
    have e88 : a.tmps.getD 88 undef = undef := hk.fact 4 _ 88 rfl rfl rfl rfl
    have e86 : a.tmps.getD 86 undef = .bool false := hk.fact 2 _ 86 rfl rfl rfl rfl
    exact ob_skip (unwanted_of rfl rfl rfl e86 (by decide)) rfl
  · refine ⟨stable_det _, ?_⟩
    intro a w O hk
    have e2 : a.tmps.getD 2 undef = .slice A n c := (hk.init 2 (initialB_of_nw nw2)).trans hi2
    have e86 : a.tmps.getD 86 undef = .bool false := hk.fact 2 _ 86 rfl rfl rfl rfl
    exact ob_skip (unwanted_of rfl rfl rfl e86 (by decide)) rfl
  · refine ⟨stable_det _, ?_⟩
    intro a w O hk
    have e19 : a.tmps.getD 19 undef = .int .i64 (takeN xs).2.1 := (hk.init 19 (initialB_of_nw nw19)).trans hi19
    have e86 : a.tmps.getD 86 undef = .bool false := hk.fact 2 _ 86 rfl rfl rfl rfl
    exact ob_skip (unwanted_of rfl rfl rfl e86 (by decide)) rfl
  · refine ⟨stable_det _, ?_⟩
    intro a w O hk
    have e90 : a.tmps.getD 90 undef = undef := hk.fact 6 _ 90 rfl rfl rfl rfl
    have e91 : a.tmps.getD 91 undef = undef := hk.fact 7 _ 91 rfl rfl rfl rfl
    have e86 : a.tmps.getD 86 undef = .bool false := hk.fact 2 _ 86 rfl rfl rfl rfl
    exact ob_skip (unwanted_of rfl rfl rfl e86 (by decide)) rfl
  · refine ⟨stable_det _, ?_⟩
    intro a w O hk
    have e92 : a.tmps.getD 92 undef = undef := hk.fact 8 _ 92 rfl rfl rfl rfl
    have e86 : a.tmps.getD 86 undef = .bool false := hk.fact 2 _ 86 rfl rfl rfl rfl
    exact ob_skip (unwanted_of rfl rfl rfl e86 (by decide)) rfl
  · refine ⟨stable_det _, ?_⟩
    intro a w O hk
    have e89 : a.tmps.getD 89 undef = undef := hk.fact 5 _ 89 rfl rfl rfl rfl
    have e93 : a.tmps.getD 93 undef = undef := hk.fact 9 _ 93 rfl rfl rfl rfl
    have e86 : a.tmps.getD 86 undef = .bool false := hk.fact 2 _ 86 rfl rfl rfl rfl
    exact ob_skip (unwanted_of rfl rfl rfl e86 (by decide)) rfl
  · refine ⟨stable_det _, ?_⟩
    intro a w O hk
    have e86 : a.tmps.getD 86 undef = .bool false := hk.fact 2 _ 86 rfl rfl rfl rfl
    have e94 : a.tmps.getD 94 undef = undef := hk.fact 10 _ 94 rfl rfl rfl rfl
    exact ob_pick rfl e86 rfl (wanted_none rfl) rfl
set_option maxRecDepth 100000 in
set_option maxHeartbeats 4000000 in
theorem wbno_region {Q : Exit → Act → World → Prop} {id : Nat} (w0 : World) (A : Option Addr) (n c : Nat) (xs : List Int) {s0 s1 s3 s4 s5 s6 s7 s8 s9 s10 s11 s12 s13 s14 s15 s16 s17 s21 s22 s23 s24 s25 s26 s27 s28 s29 s30 s31 s32 s33 s34 s35 s36 s37 s38 s39 s40 s41 s42 s43 s44 s45 s46 s47 s48 s49 s50 s51 s52 s53 s54 s55 s56 s57 s58 s59 s60 s61 s62 s63 s64 s65 s66 s67 s68 s69 s70 s71 s72 s73 s74 s75 s76 s77 s78 s79 s80 s81 s82 s83 s84 s85 s86 s87 s88 s89 s90 s91 s92 s93 s94 s95 s96 : Value} (hr : ReadsInt w0 .u8 A n xs) (hc : n ≤ c) (hB : Bytes xs) (hE : (takeN xs).2.2 ≠ 0)
    (hend : ∀ (w' : World), Below w0.heap.size w0 w' → Q .normal { tmps := #[s0, s1, .slice A n c, s3, s4, s5, s6, s7, s8, s9, s10, s11, s12, s13, s14, s15, s16, s17, .int .u64 (takeN xs).1, .int .i64 (takeN xs).2.1, .int .i64 (takeN xs).2.2, s21, s22, s23, s24, s25, s26, s27, s28, s29, s30, s31, s32, s33, s34, s35, s36, s37, s38, s39, s40, s41, s42, s43, s44, s45, s46, s47, s48, s49, s50, s51, s52, s53, s54, s55, s56, s57, s58, s59, s60, s61, s62, s63, s64, s65, s66, s67, s68, s69, s70, s71, s72, s73, s74, s75, s76, s77, s78, s79, s80, s81, s82, s83, .int .i64 (takeN xs).2.2, .bool false, .bool false, undef, undef, undef, undef, undef, undef, undef, undef, .bool false, s96], defers := [] } w') :
    (Code.region id wbno_ops.toArray true).wp Try.prog Q { tmps := #[s0, s1, .slice A n c, s3, s4, s5, s6, s7, s8, s9, s10, s11, s12, s13, s14, s15, s16, s17, .int .u64 (takeN xs).1, .int .i64 (takeN xs).2.1, .int .i64 (takeN xs).2.2, s21, s22, s23, s24, s25, s26, s27, s28, s29, s30, s31, s32, s33, s34, s35, s36, s37, s38, s39, s40, s41, s42, s43, s44, s45, s46, s47, s48, s49, s50, s51, s52, s53, s54, s55, s56, s57, s58, s59, s60, s61, s62, s63, s64, s65, s66, s67, s68, s69, s70, s71, s72, s73, s74, s75, s76, s77, s78, s79, s80, s81, s82, s83, s84, s85, s86, s87, s88, s89, s90, s91, s92, s93, s94, s95, s96], defers := [] } w0 := by
  refine wp_region_inv (by kernel_rfl) (w0.heap.size) wbno_C (wbno_F w0 A n c xs) (Nat.le_refl _) (by rfl) (by kernel_rfl) (wbno_obs w0.drew A n c xs hr hc hB hE _ _ rfl rfl rfl rfl) ?_
  intro a w' O hd hs hb hf hsame
  have x0 : a.tmps.getD 0 undef = s0 := hsame 0 (nwB.spec (by kernel_rfl))
  have x1 : a.tmps.getD 1 undef = s1 := hsame 1 (nwB.spec (by kernel_rfl))
  have x2 : a.tmps.getD 2 undef = .slice A n c := hsame 2 (nwB.spec (by kernel_rfl))
  have x3 : a.tmps.getD 3 undef = s3 := hsame 3 (nwB.spec (by kernel_rfl))
  have x4 : a.tmps.getD 4 undef = s4 := hsame 4 (nwB.spec (by kernel_rfl))
  have x5 : a.tmps.getD 5 undef = s5 := hsame 5 (nwB.spec (by kernel_rfl))
  have x6 : a.tmps.getD 6 undef = s6 := hsame 6 (nwB.spec (by kernel_rfl))
  have x7 : a.tmps.getD 7 undef = s7 := hsame 7 (nwB.spec (by kernel_rfl))
  have x8 : a.tmps.getD 8 undef = s8 := hsame 8 (nwB.spec (by kernel_rfl))
  have x9 : a.tmps.getD 9 undef = s9 := hsame 9 (nwB.spec (by kernel_rfl))
  have x10 : a.tmps.getD 10 undef = s10 := hsame 10 (nwB.spec (by kernel_rfl))
  have x11 : a.tmps.getD 11 undef = s11 := hsame 11 (nwB.spec (by kernel_rfl))
  have x12 : a.tmps.getD 12 undef = s12 := hsame 12 (nwB.spec (by kernel_rfl))
  have x13 : a.tmps.getD 13 undef = s13 := hsame 13 (nwB.spec (by kernel_rfl))
  have x14 : a.tmps.getD 14 undef = s14 := hsame 14 (nwB.spec (by kernel_rfl))
  have x15 : a.tmps.getD 15 undef = s15 := hsame 15 (nwB.spec (by kernel_rfl))
  have x16 : a.tmps.getD 16 undef = s16 := hsame 16 (nwB.spec (by kernel_rfl))
  have x17 : a.tmps.getD 17 undef = s17 := hsame 17 (nwB.spec (by kernel_rfl))
  have x18 : a.tmps.getD 18 undef = .int .u64 (takeN xs).1 := hsame 18 (nwB.spec (by kernel_rfl))
  have x19 : a.tmps.getD 19 undef = .int .i64 (takeN xs).2.1 := hsame 19 (nwB.spec (by kernel_rfl))
  have x20 : a.tmps.getD 20 undef = .int .i64 (takeN xs).2.2 := hsame 20 (nwB.spec (by kernel_rfl))
  have x21 : a.tmps.getD 21 undef = s21 := hsame 21 (nwB.spec (by kernel_rfl))
  have x22 : a.tmps.getD 22 undef = s22 := hsame 22 (nwB.spec (by kernel_rfl))
  have x23 : a.tmps.getD 23 undef = s23 := hsame 23 (nwB.spec (by kernel_rfl))
  have x24 : a.tmps.getD 24 undef = s24 := hsame 24 (nwB.spec (by kernel_rfl))
  have x25 : a.tmps.getD 25 undef = s25 := hsame 25 (nwB.spec (by kernel_rfl))
  have x26 : a.tmps.getD 26 undef = s26 := hsame 26 (nwB.spec (by kernel_rfl))
  have x27 : a.tmps.getD 27 undef = s27 := hsame 27 (nwB.spec (by kernel_rfl))
  have x28 : a.tmps.getD 28 undef = s28 := hsame 28 (nwB.spec (by kernel_rfl))
  have x29 : a.tmps.getD 29 undef = s29 := hsame 29 (nwB.spec (by kernel_rfl))
  have x30 : a.tmps.getD 30 undef = s30 := hsame 30 (nwB.spec (by kernel_rfl))
  have x31 : a.tmps.getD 31 undef = s31 := hsame 31 (nwB.spec (by kernel_rfl))
  have x32 : a.tmps.getD 32 undef = s32 := hsame 32 (nwB.spec (by kernel_rfl))
  have x33 : a.tmps.getD 33 undef = s33 := hsame 33 (nwB.spec (by kernel_rfl))
  have x34 : a.tmps.getD 34 undef = s34 := hsame 34 (nwB.spec (by kernel_rfl))
  have x35 : a.tmps.getD 35 undef = s35 := hsame 35 (nwB.spec (by kernel_rfl))
  have x36 : a.tmps.getD 36 undef = s36 := hsame 36 (nwB.spec (by kernel_rfl))
  have x37 : a.tmps.getD 37 undef = s37 := hsame 37 (nwB.spec (by kernel_rfl))
  have x38 : a.tmps.getD 38 undef = s38 := hsame 38 (nwB.spec (by kernel_rfl))
  have x39 : a.tmps.getD 39 undef = s39 := hsame 39 (nwB.spec (by kernel_rfl))
  have x40 : a.tmps.getD 40 undef = s40 := hsame 40 (nwB.spec (by kernel_rfl))
  have x41 : a.tmps.getD 41 undef = s41 := hsame 41 (nwB.spec (by kernel_rfl))
  have x42 : a.tmps.getD 42 undef = s42 := hsame 42 (nwB.spec (by kernel_rfl))
  have x43 : a.tmps.getD 43 undef = s43 := hsame 43 (nwB.spec (by kernel_rfl))
  have x44 : a.tmps.getD 44 undef = s44 := hsame 44 (nwB.spec (by kernel_rfl))
  have x45 : a.tmps.getD 45 undef = s45 := hsame 45 (nwB.spec (by kernel_rfl))
  have x46 : a.tmps.getD 46 undef = s46 := hsame 46 (nwB.spec (by kernel_rfl))
  have x47 : a.tmps.getD 47 undef = s47 := hsame 47 (nwB.spec (by kernel_rfl))
  have x48 : a.tmps.getD 48 undef = s48 := hsame 48 (nwB.spec (by kernel_rfl))
  have x49 : a.tmps.getD 49 undef = s49 := hsame 49 (nwB.spec (by kernel_rfl))
  have x50 : a.tmps.getD 50 undef = s50 := hsame 50 (nwB.spec (by kernel_rfl))
  have x51 : a.tmps.getD 51 undef = s51 := hsame 51 (nwB.spec (by kernel_rfl))
  have x52 : a.tmps.getD 52 undef = s52 := hsame 52 (nwB.spec (by kernel_rfl))
  have x53 : a.tmps.getD 53 undef = s53 := hsame 53 (nwB.spec (by kernel_rfl))
  have x54 : a.tmps.getD 54 undef = s54 := hsame 54 (nwB.spec (by kernel_rfl))
  have x55 : a.tmps.getD 55 undef = s55 := hsame 55 (nwB.spec (by kernel_rfl))
  have x56 : a.tmps.getD 56 undef = s56 := hsame 56 (nwB.spec (by kernel_rfl))
  have x57 : a.tmps.getD 57 undef = s57 := hsame 57 (nwB.spec (by kernel_rfl))
  have x58 : a.tmps.getD 58 undef = s58 := hsame 58 (nwB.spec (by kernel_rfl))
  have x59 : a.tmps.getD 59 undef = s59 := hsame 59 (nwB.spec (by kernel_rfl))
  have x60 : a.tmps.getD 60 undef = s60 := hsame 60 (nwB.spec (by kernel_rfl))
  have x61 : a.tmps.getD 61 undef = s61 := hsame 61 (nwB.spec (by kernel_rfl))
  have x62 : a.tmps.getD 62 undef = s62 := hsame 62 (nwB.spec (by kernel_rfl))
  have x63 : a.tmps.getD 63 undef = s63 := hsame 63 (nwB.spec (by kernel_rfl))
  have x64 : a.tmps.getD 64 undef = s64 := hsame 64 (nwB.spec (by kernel_rfl))
  have x65 : a.tmps.getD 65 undef = s65 := hsame 65 (nwB.spec (by kernel_rfl))
  have x66 : a.tmps.getD 66 undef = s66 := hsame 66 (nwB.spec (by kernel_rfl))
  have x67 : a.tmps.getD 67 undef = s67 := hsame 67 (nwB.spec (by kernel_rfl))
  have x68 : a.tmps.getD 68 undef = s68 := hsame 68 (nwB.spec (by kernel_rfl))
  have x69 : a.tmps.getD 69 undef = s69 := hsame 69 (nwB.spec (by kernel_rfl))
  have x70 : a.tmps.getD 70 undef = s70 := hsame 70 (nwB.spec (by kernel_rfl))
  have x71 : a.tmps.getD 71 undef = s71 := hsame 71 (nwB.spec (by kernel_rfl))
  have x72 : a.tmps.getD 72 undef = s72 := hsame 72 (nwB.spec (by kernel_rfl))
  have x73 : a.tmps.getD 73 undef = s73 := hsame 73 (nwB.spec (by kernel_rfl))
  have x74 : a.tmps.getD 74 undef = s74 := hsame 74 (nwB.spec (by kernel_rfl))
  have x75 : a.tmps.getD 75 undef = s75 := hsame 75 (nwB.spec (by kernel_rfl))
  have x76 : a.tmps.getD 76 undef = s76 := hsame 76 (nwB.spec (by kernel_rfl))
  have x77 : a.tmps.getD 77 undef = s77 := hsame 77 (nwB.spec (by kernel_rfl))
  have x78 : a.tmps.getD 78 undef = s78 := hsame 78 (nwB.spec (by kernel_rfl))
  have x79 : a.tmps.getD 79 undef = s79 := hsame 79 (nwB.spec (by kernel_rfl))
  have x80 : a.tmps.getD 80 undef = s80 := hsame 80 (nwB.spec (by kernel_rfl))
  have x81 : a.tmps.getD 81 undef = s81 := hsame 81 (nwB.spec (by kernel_rfl))
  have x82 : a.tmps.getD 82 undef = s82 := hsame 82 (nwB.spec (by kernel_rfl))
  have x83 : a.tmps.getD 83 undef = s83 := hsame 83 (nwB.spec (by kernel_rfl))
  have x84 : a.tmps.getD 84 undef = .int .i64 (takeN xs).2.2 := (hf 0 _ 84 rfl rfl (by decide)).1
  have x85 : a.tmps.getD 85 undef = .bool false := (hf 1 _ 85 rfl rfl (by decide)).1
  have x86 : a.tmps.getD 86 undef = .bool false := (hf 2 _ 86 rfl rfl (by decide)).1
  have x87 : a.tmps.getD 87 undef = undef := (hf 3 _ 87 rfl rfl (by decide)).1
  have x88 : a.tmps.getD 88 undef = undef := (hf 4 _ 88 rfl rfl (by decide)).1
  have x89 : a.tmps.getD 89 undef = undef := (hf 5 _ 89 rfl rfl (by decide)).1
  have x90 : a.tmps.getD 90 undef = undef := (hf 6 _ 90 rfl rfl (by decide)).1
  have x91 : a.tmps.getD 91 undef = undef := (hf 7 _ 91 rfl rfl (by decide)).1
  have x92 : a.tmps.getD 92 undef = undef := (hf 8 _ 92 rfl rfl (by decide)).1
  have x93 : a.tmps.getD 93 undef = undef := (hf 9 _ 93 rfl rfl (by decide)).1
  have x94 : a.tmps.getD 94 undef = undef := (hf 10 _ 94 rfl rfl (by decide)).1
  have x95 : a.tmps.getD 95 undef = .bool false := (hf 11 _ 95 rfl rfl (by decide)).1
  have x96 : a.tmps.getD 96 undef = s96 := hsame 96 (nwB.spec (by kernel_rfl))
  have hl : a.tmps = #[s0, s1, .slice A n c, s3, s4, s5, s6, s7, s8, s9, s10, s11, s12, s13, s14, s15, s16, s17, .int .u64 (takeN xs).1, .int .i64 (takeN xs).2.1, .int .i64 (takeN xs).2.2, s21, s22, s23, s24, s25, s26, s27, s28, s29, s30, s31, s32, s33, s34, s35, s36, s37, s38, s39, s40, s41, s42, s43, s44, s45, s46, s47, s48, s49, s50, s51, s52, s53, s54, s55, s56, s57, s58, s59, s60, s61, s62, s63, s64, s65, s66, s67, s68, s69, s70, s71, s72, s73, s74, s75, s76, s77, s78, s79, s80, s81, s82, s83, .int .i64 (takeN xs).2.2, .bool false, .bool false, undef, undef, undef, undef, undef, undef, undef, undef, .bool false, s96] := by
    have h := lit a.tmps 97 hs
    have e : (List.range 97).map (fun i => a.tmps.getD i undef) = [a.tmps.getD 0 undef, a.tmps.getD 1 undef, a.tmps.getD 2 undef, a.tmps.getD 3 undef, a.tmps.getD 4 undef, a.tmps.getD 5 undef, a.tmps.getD 6 undef, a.tmps.getD 7 undef, a.tmps.getD 8 undef, a.tmps.getD 9 undef, a.tmps.getD 10 undef, a.tmps.getD 11 undef, a.tmps.getD 12 undef, a.tmps.getD 13 undef, a.tmps.getD 14 undef, a.tmps.getD 15 undef, a.tmps.getD 16 undef, a.tmps.getD 17 undef, a.tmps.getD 18 undef, a.tmps.getD 19 undef, a.tmps.getD 20 undef, a.tmps.getD 21 undef, a.tmps.getD 22 undef, a.tmps.getD 23 undef, a.tmps.getD 24 undef, a.tmps.getD 25 undef, a.tmps.getD 26 undef, a.tmps.getD 27 undef, a.tmps.getD 28 undef, a.tmps.getD 29 undef, a.tmps.getD 30 undef, a.tmps.getD 31 undef, a.tmps.getD 32 undef, a.tmps.getD 33 undef, a.tmps.getD 34 undef, a.tmps.getD 35 undef, a.tmps.getD 36 undef, a.tmps.getD 37 undef, a.tmps.getD 38 undef, a.tmps.getD 39 undef, a.tmps.getD 40 undef, a.tmps.getD 41 undef, a.tmps.getD 42 undef, a.tmps.getD 43 undef, a.tmps.getD 44 undef, a.tmps.getD 45 undef, a.tmps.getD 46 undef, a.tmps.getD 47 undef, a.tmps.getD 48 undef, a.tmps.getD 49 undef, a.tmps.getD 50 undef, a.tmps.getD 51 undef, a.tmps.getD 52 undef, a.tmps.getD 53 undef, a.tmps.getD 54 undef, a.tmps.getD 55 undef, a.tmps.getD 56 undef, a.tmps.getD 57 undef, a.tmps.getD 58 undef, a.tmps.getD 59 undef, a.tmps.getD 60 undef, a.tmps.getD 61 undef, a.tmps.getD 62 undef, a.tmps.getD 63 undef, a.tmps.getD 64 undef, a.tmps.getD 65 undef, a.tmps.getD 66 undef, a.tmps.getD 67 undef, a.tmps.getD 68 undef, a.tmps.getD 69 undef, a.tmps.getD 70 undef, a.tmps.getD 71 undef, a.tmps.getD 72 undef, a.tmps.getD 73 undef, a.tmps.getD 74 undef, a.tmps.getD 75 undef, a.tmps.getD 76 undef, a.tmps.getD 77 undef, a.tmps.getD 78 undef, a.tmps.getD 79 undef, a.tmps.getD 80 undef, a.tmps.getD 81 undef, a.tmps.getD 82 undef, a.tmps.getD 83 undef, a.tmps.getD 84 undef, a.tmps.getD 85 undef, a.tmps.getD 86 undef, a.tmps.getD 87 undef, a.tmps.getD 88 undef, a.tmps.getD 89 undef, a.tmps.getD 90 undef, a.tmps.getD 91 undef, a.tmps.getD 92 undef, a.tmps.getD 93 undef, a.tmps.getD 94 undef, a.tmps.getD 95 undef, a.tmps.getD 96 undef] := rfl
    rw [e, x0, x1, x2, x3, x4, x5, x6, x7, x8, x9, x10, x11, x12, x13, x14, x15, x16, x17, x18, x19, x20, x21, x22, x23, x24, x25, x26, x27, x28, x29, x30, x31, x32, x33, x34, x35, x36, x37, x38, x39, x40, x41, x42, x43, x44, x45, x46, x47, x48, x49, x50, x51, x52, x53, x54, x55, x56, x57, x58, x59, x60, x61, x62, x63, x64, x65, x66, x67, x68, x69, x70, x71, x72, x73, x74, x75, x76, x77, x78, x79, x80, x81, x82, x83, x84, x85, x86, x87, x88, x89, x90, x91, x92, x93, x94, x95, x96] at h
    exact h
  obtain ⟨tmps, defers⟩ := a
  obtain rfl : defers = [] := hd
  have hl' : tmps = _ := hl
  rw [hl']
  exact hend w' ⟨hb.os, hb.tape, hb.output, hb.size, hb.block⟩

end Go.Proofs.Ytcgmfbefikpkbaa
