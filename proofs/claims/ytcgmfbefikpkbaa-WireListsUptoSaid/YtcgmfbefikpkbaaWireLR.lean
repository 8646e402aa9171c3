/- Rows as bytes: the region of the law's last test. -/
import Derived.Test.YtcgmfbefikpkbaaWireLN
namespace Go.Proofs.Ytcgmfbefikpkbaa
open Go.RowKit Go.Proofs.YtcgmfbefikpkbaaW.PrintWords Go.RegionInvYtcgmfbefikpkbaa
set_option linter.unusedVariables false

def wl_ops : List Oper := [
  { dst := some 134, op := Go.Op.move (Go.Operand.tmp 0), type := 22, pos := "law.go:64", after := #[], guard := none },
  { dst := some 135, op := Go.Op.move (Go.Operand.tmp 2), type := 42, pos := "law.go:64", after := #[], guard := none },
  { dst := some 136, op := Go.Op.call { callee := Go.Callee.value (Go.Operand.func 29), args := #[Go.Operand.tmp 134, Go.Operand.tmp 135, Go.Operand.func 21], argTypes := #[22, 42, 36] }, type := 22, pos := "law.go:64", after := #[{ on := 0, ground := Go.Ground.data }, { on := 1, ground := Go.Ground.data }], guard := none },
  { dst := some 137, op := Go.Op.convert 22 9 (Go.Operand.tmp 136), type := 9, pos := "law.go:64", after := #[{ on := 2, ground := Go.Ground.data }], guard := none },
  { dst := some 138, op := Go.Op.move (Go.Operand.tmp 15), type := 22, pos := "law.go:64", after := #[], guard := none },
  { dst := some 139, op := Go.Op.convert 22 9 (Go.Operand.tmp 138), type := 9, pos := "law.go:64", after := #[{ on := 4, ground := Go.Ground.data }], guard := none },
  { dst := some 140, op := Go.Op.binOp Go.BinOp.eql 9 (Go.Operand.tmp 137) (Go.Operand.tmp 139) 9, type := 4, pos := "law.go:64", after := #[{ on := 3, ground := Go.Ground.data }, { on := 5, ground := Go.Ground.data }], guard := none },
  { dst := some 141, op := Go.Op.move (Go.Operand.tmp 140), type := 4, pos := "law.go:64", after := #[{ on := 6, ground := Go.Ground.data }, { on := 2, ground := Go.Ground.chain }], guard := none },
  { dst := some 142, op := Go.Op.call { callee := Go.Callee.value (Go.Operand.func 18), args := #[], argTypes := #[] }, type := 4, pos := "law.go:64", after := #[{ on := 7, ground := Go.Ground.chain }, { on := 7, ground := Go.Ground.guard }], guard := some (7, true) },
  { dst := some 143, op := Go.Op.pick (Go.Operand.tmp 141) (Go.Operand.tmp 142) (Go.Operand.const (Go.Value.bool false)), type := 4, pos := "law.go:64", after := #[{ on := 7, ground := Go.Ground.data }, { on := 8, ground := Go.Ground.data }], guard := none },
  { dst := some 6, op := Go.Op.assign (Go.Operand.tmp 143), type := 4, pos := "law.go:64", after := #[{ on := 9, ground := Go.Ground.data }, { on := 8, ground := Go.Ground.chain }, { on := 0, ground := Go.Ground.phase }, { on := 1, ground := Go.Ground.phase }, { on := 2, ground := Go.Ground.phase }, { on := 3, ground := Go.Ground.phase }, { on := 4, ground := Go.Ground.phase }, { on := 5, ground := Go.Ground.phase }, { on := 6, ground := Go.Ground.phase }, { on := 7, ground := Go.Ground.phase }, { on := 8, ground := Go.Ground.phase }, { on := 9, ground := Go.Ground.phase }], guard := none }]
def wl_F (w0 : World) (A A2 A15 : Option Addr) (n c m c2 m15 c15 : Nat) (xs : List Int) (rows : List (List Int)) (tot : Nat) : Nat → Value → World → (Nat → Prop) → Prop := fun i => match i with
  | 0 => fun v _ _ => v = .slice A n c
  | 1 => fun v _ _ => v = .slice A2 m c2
  | 2 => fun v w O => OwnO w0.heap.size 5 1 (xs ++ putL rows).length (nums .u8 (xs ++ putL rows)) v w O
  | 3 => fun v _ _ => v = .string (strOfNums (xs ++ putL rows))
  | 4 => fun v _ _ => v = .slice A15 m15 c15
  | 5 => fun v _ _ => v = .string (strOfNums (xs ++ putL rows))
  | 6 => fun v _ _ => v = .bool true
  | 7 => fun v _ _ => v = .bool true
  | 8 => fun v _ _ => v = .bool true
  | 9 => fun v _ _ => v = .bool true
  | 10 => fun v _ _ => v = .bool true
  | _ => fun _ _ _ => True
def wl_C : Nat → List Nat := fun i => match i with
  | _ => []
theorem wl_nw0 : nwB wl_ops.toArray 0 = true := by kernel_rfl
theorem wl_nw2 : nwB wl_ops.toArray 2 = true := by kernel_rfl
theorem wl_nw15 : nwB wl_ops.toArray 15 = true := by kernel_rfl
set_option maxRecDepth 100000 in
set_option maxHeartbeats 4000000 in
theorem wl_obs (w0 : World) (A A2 A15 : Option Addr) (n c m c2 m15 c15 : Nat) (xs : List Int) (rows : List (List Int)) (tot : Nat) (hr : ReadsInt w0 .u8 A n xs) (hr2 : ReadsRows w0 A2 m rows) (h15 : ReadsInt w0 .u8 A15 m15 (xs ++ putL rows)) (ht : ∀ k, (putRows (rows.take k)).length ≤ tot) (hl : n + tot ≤ 140737488350000) (Q : Exit → Act → World → Prop) (a0 : Act) (hi0 : a0.tmps.getD 0 undef = .slice A n c) (hi2 : a0.tmps.getD 2 undef = .slice A2 m c2) (hi15 : a0.tmps.getD 15 undef = .slice A15 m15 c15) :
    Obs Try.prog wl_ops.toArray Q w0.heap.size wl_C (wl_F w0 A A2 A15 n c m c2 m15 c15 xs rows tot) a0 w0 wl_ops.toArray.toList 0 := by
  have nw0 := wl_nw0
  have nw2 := wl_nw2
  have nw15 := wl_nw15
  refine ⟨?_, ?_, ?_, ?_, ?_, ?_, ?_, ?_, ?_, ?_, ?_, trivial⟩
  · refine ⟨stable_det _, ?_⟩
    intro a w O hk
    have e0 : a.tmps.getD 0 undef = .slice A n c := (hk.init 0 (initialB_of_nw nw0)).trans hi0
    exact ob_move rfl e0 (wanted_none rfl) rfl
  · refine ⟨stable_det _, ?_⟩
    intro a w O hk
    have e2 : a.tmps.getD 2 undef = .slice A2 m c2 := (hk.init 2 (initialB_of_nw nw2)).trans hi2
    exact ob_move rfl e2 (wanted_none rfl) rfl
  · refine ⟨stable_own _ _ _ _, ?_⟩
    intro a w O hk
    have e134 : a.tmps.getD 134 undef = .slice A n c := hk.fact 0 _ 134 rfl rfl rfl rfl
    have e135 : a.tmps.getD 135 undef = .slice A2 m c2 := hk.fact 1 _ 135 rfl rfl rfl rfl
    refine ob_callFresh #[.slice A n c, .slice A2 m c2, .func (.func 21) #[] #[]] Try.func29 rfl rfl rfl (by show [a.tmps.getD 134 undef, a.tmps.getD 135 undef, Value.func (.func 21) #[] #[]] = [_, _, _]; rw [e134, e135]) (wanted_none rfl) hk.base ?_
    exact putRowsL_calls A A2 n c m c2 xs rows tot w (hr.below hk.world) (hr2.below hk.world) ht hl
  · refine ⟨stable_det _, ?_⟩
    intro a w O hk
    have f136 := hk.fact 2 _ 136 rfl rfl rfl rfl
    have g136 := hk.owns 2 rfl rfl
    exact ob_convert rfl rfl (own_string Try.underlying22 Try.underlying5 Try.underlying9 f136.1) (wanted_none rfl) rfl
  · refine ⟨stable_det _, ?_⟩
    intro a w O hk
    have e15 : a.tmps.getD 15 undef = .slice A15 m15 c15 := (hk.init 15 (initialB_of_nw nw15)).trans hi15
    exact ob_move rfl e15 (wanted_none rfl) rfl
  · refine ⟨stable_det _, ?_⟩
    intro a w O hk
    have e138 : a.tmps.getD 138 undef = .slice A15 m15 c15 := hk.fact 4 _ 138 rfl rfl rfl rfl
    exact ob_convert rfl e138 (string_of_reads Try.underlying22 Try.underlying5 Try.underlying9 (h15.below hk.world)) (wanted_none rfl) rfl
  · refine ⟨stable_det _, ?_⟩
    intro a w O hk
    have e137 : a.tmps.getD 137 undef = .string (strOfNums (xs ++ putL rows)) := hk.fact 3 _ 137 rfl rfl rfl rfl
    have e139 : a.tmps.getD 139 undef = .string (strOfNums (xs ++ putL rows)) := hk.fact 5 _ 139 rfl rfl rfl rfl
    exact ob_eqlStr rfl e137 e139 rfl (wanted_none rfl) rfl
  · refine ⟨stable_det _, ?_⟩
    intro a w O hk
    have e140 : a.tmps.getD 140 undef = .bool true := hk.fact 6 _ 140 rfl rfl rfl rfl
    exact ob_move rfl e140 (wanted_none rfl) rfl
  · refine ⟨stable_det _, ?_⟩
    intro a w O hk
    have e141 : a.tmps.getD 141 undef = .bool true := hk.fact 7 _ 141 rfl rfl rfl rfl
    refine ob_call #[] Try.func18 rfl rfl rfl rfl (wanted_of rfl rfl rfl e141) ((awake_calls w).mono ?_)
    rintro e w' ⟨rfl, hb⟩
    exact ⟨_, fun _ => False, rfl, rfl, Chg.of_below hb, fun _ h => h.elim⟩
  · refine ⟨stable_det _, ?_⟩
    intro a w O hk
    have e141 : a.tmps.getD 141 undef = .bool true := hk.fact 7 _ 141 rfl rfl rfl rfl
    have e142 : a.tmps.getD 142 undef = .bool true := hk.fact 8 _ 142 rfl rfl rfl rfl
    exact ob_pick rfl e141 e142 (wanted_none rfl) rfl
  · refine ⟨stable_det _, ?_⟩
    intro a w O hk
    have e143 : a.tmps.getD 143 undef = .bool true := hk.fact 9 _ 143 rfl rfl rfl rfl
    exact ob_assign rfl e143 (wanted_none rfl) rfl
set_option maxRecDepth 100000 in
set_option maxHeartbeats 4000000 in
theorem wl_region {Q : Exit → Act → World → Prop} {id : Nat} (w0 : World) (A A2 A15 : Option Addr) (n c m c2 m15 c15 : Nat) (xs : List Int) (rows : List (List Int)) (tot : Nat) {s1 s3 s4 s5 s6 s7 s8 s9 s10 s11 s12 s13 s14 s16 s17 s18 s19 s20 s21 s22 s23 s24 s25 s26 s27 s28 s29 s30 s31 s32 s33 s34 s35 s36 s37 s38 s39 s40 s41 s42 s43 s44 s45 s46 s47 s48 s49 s50 s51 s52 s53 s54 s55 s56 s57 s58 s59 s60 s61 s62 s63 s64 s65 s66 s67 s68 s69 s70 s71 s72 s73 s74 s75 s76 s77 s78 s79 s80 s81 s82 s83 s84 s85 s86 s87 s88 s89 s90 s91 s92 s93 s94 s95 s96 s97 s98 s99 s100 s101 s102 s103 s104 s105 s106 s107 s108 s109 s110 s111 s112 s113 s114 s115 s116 s117 s118 s119 s120 s121 s122 s123 s124 s125 s126 s127 s128 s129 s130 s131 s132 s133 s134 s135 s136 s137 s138 s139 s140 s141 s142 s143 : Value} (hr : ReadsInt w0 .u8 A n xs) (hr2 : ReadsRows w0 A2 m rows) (h15 : ReadsInt w0 .u8 A15 m15 (xs ++ putL rows)) (ht : ∀ k, (putRows (rows.take k)).length ≤ tot) (hl : n + tot ≤ 140737488350000)
    (hend : ∀ (w' : World) (u136 : Value) (O136 : Nat → Prop), Below w0.heap.size w0 w' → (OwnO w0.heap.size 5 1 (xs ++ putL rows).length (nums .u8 (xs ++ putL rows)) u136 w' O136) → (∀ k, O136 k → w0.heap.size ≤ k ∧ k < w'.heap.size) → Q .normal { tmps := ((.slice A n c : Value) :: s1 :: (.slice A2 m c2 : Value) :: s3 :: s4 :: s5 :: (.bool true : Value) :: s7 :: s8 :: s9 :: s10 :: s11 :: s12 :: s13 :: s14 :: (.slice A15 m15 c15 : Value) :: s16 :: s17 :: s18 :: s19 :: s20 :: s21 :: s22 :: s23 :: s24 :: s25 :: s26 :: s27 :: s28 :: s29 :: s30 :: s31 :: s32 :: s33 :: s34 :: s35 :: s36 :: s37 :: s38 :: s39 :: s40 :: s41 :: s42 :: s43 :: s44 :: s45 :: s46 :: s47 :: s48 :: s49 :: s50 :: s51 :: s52 :: s53 :: s54 :: s55 :: s56 :: s57 :: s58 :: s59 :: s60 :: s61 :: s62 :: s63 :: s64 :: s65 :: s66 :: s67 :: s68 :: s69 :: s70 :: s71 :: s72 :: s73 :: s74 :: s75 :: s76 :: s77 :: s78 :: s79 :: s80 :: s81 :: s82 :: s83 :: s84 :: s85 :: s86 :: s87 :: s88 :: s89 :: s90 :: s91 :: s92 :: s93 :: s94 :: s95 :: s96 :: s97 :: s98 :: s99 :: s100 :: s101 :: s102 :: s103 :: s104 :: s105 :: s106 :: s107 :: s108 :: s109 :: s110 :: s111 :: s112 :: s113 :: s114 :: s115 :: s116 :: s117 :: s118 :: s119 :: s120 :: s121 :: s122 :: s123 :: s124 :: s125 :: s126 :: s127 :: s128 :: s129 :: s130 :: s131 :: s132 :: s133 :: (.slice A n c : Value) :: (.slice A2 m c2 : Value) :: u136 :: (.string (strOfNums (xs ++ putL rows)) : Value) :: (.slice A15 m15 c15 : Value) :: (.string (strOfNums (xs ++ putL rows)) : Value) :: (.bool true : Value) :: (.bool true : Value) :: (.bool true : Value) :: (.bool true : Value) :: ([] : List Value)).toArray, defers := [] } w') :
    (Code.region id wl_ops.toArray true).wp Try.prog Q { tmps := ((.slice A n c : Value) :: s1 :: (.slice A2 m c2 : Value) :: s3 :: s4 :: s5 :: s6 :: s7 :: s8 :: s9 :: s10 :: s11 :: s12 :: s13 :: s14 :: (.slice A15 m15 c15 : Value) :: s16 :: s17 :: s18 :: s19 :: s20 :: s21 :: s22 :: s23 :: s24 :: s25 :: s26 :: s27 :: s28 :: s29 :: s30 :: s31 :: s32 :: s33 :: s34 :: s35 :: s36 :: s37 :: s38 :: s39 :: s40 :: s41 :: s42 :: s43 :: s44 :: s45 :: s46 :: s47 :: s48 :: s49 :: s50 :: s51 :: s52 :: s53 :: s54 :: s55 :: s56 :: s57 :: s58 :: s59 :: s60 :: s61 :: s62 :: s63 :: s64 :: s65 :: s66 :: s67 :: s68 :: s69 :: s70 :: s71 :: s72 :: s73 :: s74 :: s75 :: s76 :: s77 :: s78 :: s79 :: s80 :: s81 :: s82 :: s83 :: s84 :: s85 :: s86 :: s87 :: s88 :: s89 :: s90 :: s91 :: s92 :: s93 :: s94 :: s95 :: s96 :: s97 :: s98 :: s99 :: s100 :: s101 :: s102 :: s103 :: s104 :: s105 :: s106 :: s107 :: s108 :: s109 :: s110 :: s111 :: s112 :: s113 :: s114 :: s115 :: s116 :: s117 :: s118 :: s119 :: s120 :: s121 :: s122 :: s123 :: s124 :: s125 :: s126 :: s127 :: s128 :: s129 :: s130 :: s131 :: s132 :: s133 :: s134 :: s135 :: s136 :: s137 :: s138 :: s139 :: s140 :: s141 :: s142 :: s143 :: ([] : List Value)).toArray, defers := [] } w0 := by
  refine wp_region_inv (by kernel_rfl) (w0.heap.size) wl_C (wl_F w0 A A2 A15 n c m c2 m15 c15 xs rows tot) (Nat.le_refl _) (by rfl) (by kernel_rfl) (wl_obs w0.drew A A2 A15 n c m c2 m15 c15 xs rows tot hr hr2 h15 ht hl _ _ rfl rfl rfl) ?_
  intro a w' O hd hs hb hf hsame
  have x0 : a.tmps.getD 0 undef = .slice A n c := hsame 0 (nwB.spec (by kernel_rfl))
  have x1 : a.tmps.getD 1 undef = s1 := hsame 1 (nwB.spec (by kernel_rfl))
  have x2 : a.tmps.getD 2 undef = .slice A2 m c2 := hsame 2 (nwB.spec (by kernel_rfl))
  have x3 : a.tmps.getD 3 undef = s3 := hsame 3 (nwB.spec (by kernel_rfl))
  have x4 : a.tmps.getD 4 undef = s4 := hsame 4 (nwB.spec (by kernel_rfl))
  have x5 : a.tmps.getD 5 undef = s5 := hsame 5 (nwB.spec (by kernel_rfl))
  have x6 : a.tmps.getD 6 undef = .bool true := (hf 10 _ 6 rfl rfl (by decide)).1
  have x7 : a.tmps.getD 7 undef = s7 := hsame 7 (nwB.spec (by kernel_rfl))
  have x8 : a.tmps.getD 8 undef = s8 := hsame 8 (nwB.spec (by kernel_rfl))
  have x9 : a.tmps.getD 9 undef = s9 := hsame 9 (nwB.spec (by kernel_rfl))
  have x10 : a.tmps.getD 10 undef = s10 := hsame 10 (nwB.spec (by kernel_rfl))
  have x11 : a.tmps.getD 11 undef = s11 := hsame 11 (nwB.spec (by kernel_rfl))
  have x12 : a.tmps.getD 12 undef = s12 := hsame 12 (nwB.spec (by kernel_rfl))
  have x13 : a.tmps.getD 13 undef = s13 := hsame 13 (nwB.spec (by kernel_rfl))
  have x14 : a.tmps.getD 14 undef = s14 := hsame 14 (nwB.spec (by kernel_rfl))
  have x15 : a.tmps.getD 15 undef = .slice A15 m15 c15 := hsame 15 (nwB.spec (by kernel_rfl))
  have x16 : a.tmps.getD 16 undef = s16 := hsame 16 (nwB.spec (by kernel_rfl))
  have x17 : a.tmps.getD 17 undef = s17 := hsame 17 (nwB.spec (by kernel_rfl))
  have x18 : a.tmps.getD 18 undef = s18 := hsame 18 (nwB.spec (by kernel_rfl))
  have x19 : a.tmps.getD 19 undef = s19 := hsame 19 (nwB.spec (by kernel_rfl))
  have x20 : a.tmps.getD 20 undef = s20 := hsame 20 (nwB.spec (by kernel_rfl))
  have x21 : a.tmps.getD 21 undef = s21 := hsame 21 (nwB.spec (by kernel_rfl))
  have x22 : a.tmps.getD 22 undef = s22 := hsame 22 (nwB.spec (by kernel_rfl))
  have x23 : a.tmps.getD 23 undef = s23 := hsame 23 (nwB.spec (by kernel_rfl))
  have x24 : a.tmps.getD 24 undef = s24 := hsame 24 (nwB.spec (by kernel_rfl))
  have x25 : a.tmps.getD 25 undef = s25 := hsame 25 (nwB.spec (by kernel_rfl))
  have x26 : a.tmps.getD 26 undef = s26 := hsame 26 (nwB.spec (by kernel_rfl))
  have x27 : a.tmps.getD 27 undef = s27 := hsame 27 (nwB.spec (by kernel_rfl))
  have x28 : a.tmps.getD 28 undef = s28 := hsame 28 (nwB.spec (by kernel_rfl))
  have x29 : a.tmps.getD 29 undef = s29 := hsame 29 (nwB.spec (by kernel_rfl))
  have x30 : a.tmps.getD 30 undef = s30 := hsame 30 (nwB.spec (by kernel_rfl))
  have x31 : a.tmps.getD 31 undef = s31 := hsame 31 (nwB.spec (by kernel_rfl))
  have x32 : a.tmps.getD 32 undef = s32 := hsame 32 (nwB.spec (by kernel_rfl))
  have x33 : a.tmps.getD 33 undef = s33 := hsame 33 (nwB.spec (by kernel_rfl))
  have x34 : a.tmps.getD 34 undef = s34 := hsame 34 (nwB.spec (by kernel_rfl))
  have x35 : a.tmps.getD 35 undef = s35 := hsame 35 (nwB.spec (by kernel_rfl))
  have x36 : a.tmps.getD 36 undef = s36 := hsame 36 (nwB.spec (by kernel_rfl))
  have x37 : a.tmps.getD 37 undef = s37 := hsame 37 (nwB.spec (by kernel_rfl))
  have x38 : a.tmps.getD 38 undef = s38 := hsame 38 (nwB.spec (by kernel_rfl))
  have x39 : a.tmps.getD 39 undef = s39 := hsame 39 (nwB.spec (by kernel_rfl))
  have x40 : a.tmps.getD 40 undef = s40 := hsame 40 (nwB.spec (by kernel_rfl))
  have x41 : a.tmps.getD 41 undef = s41 := hsame 41 (nwB.spec (by kernel_rfl))
  have x42 : a.tmps.getD 42 undef = s42 := hsame 42 (nwB.spec (by kernel_rfl))
  have x43 : a.tmps.getD 43 undef = s43 := hsame 43 (nwB.spec (by kernel_rfl))
  have x44 : a.tmps.getD 44 undef = s44 := hsame 44 (nwB.spec (by kernel_rfl))
  have x45 : a.tmps.getD 45 undef = s45 := hsame 45 (nwB.spec (by kernel_rfl))
  have x46 : a.tmps.getD 46 undef = s46 := hsame 46 (nwB.spec (by kernel_rfl))
  have x47 : a.tmps.getD 47 undef = s47 := hsame 47 (nwB.spec (by kernel_rfl))
  have x48 : a.tmps.getD 48 undef = s48 := hsame 48 (nwB.spec (by kernel_rfl))
  have x49 : a.tmps.getD 49 undef = s49 := hsame 49 (nwB.spec (by kernel_rfl))
  have x50 : a.tmps.getD 50 undef = s50 := hsame 50 (nwB.spec (by kernel_rfl))
  have x51 : a.tmps.getD 51 undef = s51 := hsame 51 (nwB.spec (by kernel_rfl))
  have x52 : a.tmps.getD 52 undef = s52 := hsame 52 (nwB.spec (by kernel_rfl))
  have x53 : a.tmps.getD 53 undef = s53 := hsame 53 (nwB.spec (by kernel_rfl))
  have x54 : a.tmps.getD 54 undef = s54 := hsame 54 (nwB.spec (by kernel_rfl))
  have x55 : a.tmps.getD 55 undef = s55 := hsame 55 (nwB.spec (by kernel_rfl))
  have x56 : a.tmps.getD 56 undef = s56 := hsame 56 (nwB.spec (by kernel_rfl))
  have x57 : a.tmps.getD 57 undef = s57 := hsame 57 (nwB.spec (by kernel_rfl))
  have x58 : a.tmps.getD 58 undef = s58 := hsame 58 (nwB.spec (by kernel_rfl))
  have x59 : a.tmps.getD 59 undef = s59 := hsame 59 (nwB.spec (by kernel_rfl))
  have x60 : a.tmps.getD 60 undef = s60 := hsame 60 (nwB.spec (by kernel_rfl))
  have x61 : a.tmps.getD 61 undef = s61 := hsame 61 (nwB.spec (by kernel_rfl))
  have x62 : a.tmps.getD 62 undef = s62 := hsame 62 (nwB.spec (by kernel_rfl))
  have x63 : a.tmps.getD 63 undef = s63 := hsame 63 (nwB.spec (by kernel_rfl))
  have x64 : a.tmps.getD 64 undef = s64 := hsame 64 (nwB.spec (by kernel_rfl))
  have x65 : a.tmps.getD 65 undef = s65 := hsame 65 (nwB.spec (by kernel_rfl))
  have x66 : a.tmps.getD 66 undef = s66 := hsame 66 (nwB.spec (by kernel_rfl))
  have x67 : a.tmps.getD 67 undef = s67 := hsame 67 (nwB.spec (by kernel_rfl))
  have x68 : a.tmps.getD 68 undef = s68 := hsame 68 (nwB.spec (by kernel_rfl))
  have x69 : a.tmps.getD 69 undef = s69 := hsame 69 (nwB.spec (by kernel_rfl))
  have x70 : a.tmps.getD 70 undef = s70 := hsame 70 (nwB.spec (by kernel_rfl))
  have x71 : a.tmps.getD 71 undef = s71 := hsame 71 (nwB.spec (by kernel_rfl))
  have x72 : a.tmps.getD 72 undef = s72 := hsame 72 (nwB.spec (by kernel_rfl))
  have x73 : a.tmps.getD 73 undef = s73 := hsame 73 (nwB.spec (by kernel_rfl))
  have x74 : a.tmps.getD 74 undef = s74 := hsame 74 (nwB.spec (by kernel_rfl))
  have x75 : a.tmps.getD 75 undef = s75 := hsame 75 (nwB.spec (by kernel_rfl))
  have x76 : a.tmps.getD 76 undef = s76 := hsame 76 (nwB.spec (by kernel_rfl))
  have x77 : a.tmps.getD 77 undef = s77 := hsame 77 (nwB.spec (by kernel_rfl))
  have x78 : a.tmps.getD 78 undef = s78 := hsame 78 (nwB.spec (by kernel_rfl))
  have x79 : a.tmps.getD 79 undef = s79 := hsame 79 (nwB.spec (by kernel_rfl))
  have x80 : a.tmps.getD 80 undef = s80 := hsame 80 (nwB.spec (by kernel_rfl))
  have x81 : a.tmps.getD 81 undef = s81 := hsame 81 (nwB.spec (by kernel_rfl))
  have x82 : a.tmps.getD 82 undef = s82 := hsame 82 (nwB.spec (by kernel_rfl))
  have x83 : a.tmps.getD 83 undef = s83 := hsame 83 (nwB.spec (by kernel_rfl))
  have x84 : a.tmps.getD 84 undef = s84 := hsame 84 (nwB.spec (by kernel_rfl))
  have x85 : a.tmps.getD 85 undef = s85 := hsame 85 (nwB.spec (by kernel_rfl))
  have x86 : a.tmps.getD 86 undef = s86 := hsame 86 (nwB.spec (by kernel_rfl))
  have x87 : a.tmps.getD 87 undef = s87 := hsame 87 (nwB.spec (by kernel_rfl))
  have x88 : a.tmps.getD 88 undef = s88 := hsame 88 (nwB.spec (by kernel_rfl))
  have x89 : a.tmps.getD 89 undef = s89 := hsame 89 (nwB.spec (by kernel_rfl))
  have x90 : a.tmps.getD 90 undef = s90 := hsame 90 (nwB.spec (by kernel_rfl))
  have x91 : a.tmps.getD 91 undef = s91 := hsame 91 (nwB.spec (by kernel_rfl))
  have x92 : a.tmps.getD 92 undef = s92 := hsame 92 (nwB.spec (by kernel_rfl))
  have x93 : a.tmps.getD 93 undef = s93 := hsame 93 (nwB.spec (by kernel_rfl))
  have x94 : a.tmps.getD 94 undef = s94 := hsame 94 (nwB.spec (by kernel_rfl))
  have x95 : a.tmps.getD 95 undef = s95 := hsame 95 (nwB.spec (by kernel_rfl))
  have x96 : a.tmps.getD 96 undef = s96 := hsame 96 (nwB.spec (by kernel_rfl))
  have x97 : a.tmps.getD 97 undef = s97 := hsame 97 (nwB.spec (by kernel_rfl))
  have x98 : a.tmps.getD 98 undef = s98 := hsame 98 (nwB.spec (by kernel_rfl))
  have x99 : a.tmps.getD 99 undef = s99 := hsame 99 (nwB.spec (by kernel_rfl))
  have x100 : a.tmps.getD 100 undef = s100 := hsame 100 (nwB.spec (by kernel_rfl))
  have x101 : a.tmps.getD 101 undef = s101 := hsame 101 (nwB.spec (by kernel_rfl))
  have x102 : a.tmps.getD 102 undef = s102 := hsame 102 (nwB.spec (by kernel_rfl))
  have x103 : a.tmps.getD 103 undef = s103 := hsame 103 (nwB.spec (by kernel_rfl))
  have x104 : a.tmps.getD 104 undef = s104 := hsame 104 (nwB.spec (by kernel_rfl))
  have x105 : a.tmps.getD 105 undef = s105 := hsame 105 (nwB.spec (by kernel_rfl))
  have x106 : a.tmps.getD 106 undef = s106 := hsame 106 (nwB.spec (by kernel_rfl))
  have x107 : a.tmps.getD 107 undef = s107 := hsame 107 (nwB.spec (by kernel_rfl))
  have x108 : a.tmps.getD 108 undef = s108 := hsame 108 (nwB.spec (by kernel_rfl))
  have x109 : a.tmps.getD 109 undef = s109 := hsame 109 (nwB.spec (by kernel_rfl))
  have x110 : a.tmps.getD 110 undef = s110 := hsame 110 (nwB.spec (by kernel_rfl))
  have x111 : a.tmps.getD 111 undef = s111 := hsame 111 (nwB.spec (by kernel_rfl))
  have x112 : a.tmps.getD 112 undef = s112 := hsame 112 (nwB.spec (by kernel_rfl))
  have x113 : a.tmps.getD 113 undef = s113 := hsame 113 (nwB.spec (by kernel_rfl))
  have x114 : a.tmps.getD 114 undef = s114 := hsame 114 (nwB.spec (by kernel_rfl))
  have x115 : a.tmps.getD 115 undef = s115 := hsame 115 (nwB.spec (by kernel_rfl))
  have x116 : a.tmps.getD 116 undef = s116 := hsame 116 (nwB.spec (by kernel_rfl))
  have x117 : a.tmps.getD 117 undef = s117 := hsame 117 (nwB.spec (by kernel_rfl))
  have x118 : a.tmps.getD 118 undef = s118 := hsame 118 (nwB.spec (by kernel_rfl))
  have x119 : a.tmps.getD 119 undef = s119 := hsame 119 (nwB.spec (by kernel_rfl))
  have x120 : a.tmps.getD 120 undef = s120 := hsame 120 (nwB.spec (by kernel_rfl))
  have x121 : a.tmps.getD 121 undef = s121 := hsame 121 (nwB.spec (by kernel_rfl))
  have x122 : a.tmps.getD 122 undef = s122 := hsame 122 (nwB.spec (by kernel_rfl))
  have x123 : a.tmps.getD 123 undef = s123 := hsame 123 (nwB.spec (by kernel_rfl))
  have x124 : a.tmps.getD 124 undef = s124 := hsame 124 (nwB.spec (by kernel_rfl))
  have x125 : a.tmps.getD 125 undef = s125 := hsame 125 (nwB.spec (by kernel_rfl))
  have x126 : a.tmps.getD 126 undef = s126 := hsame 126 (nwB.spec (by kernel_rfl))
  have x127 : a.tmps.getD 127 undef = s127 := hsame 127 (nwB.spec (by kernel_rfl))
  have x128 : a.tmps.getD 128 undef = s128 := hsame 128 (nwB.spec (by kernel_rfl))
  have x129 : a.tmps.getD 129 undef = s129 := hsame 129 (nwB.spec (by kernel_rfl))
  have x130 : a.tmps.getD 130 undef = s130 := hsame 130 (nwB.spec (by kernel_rfl))
  have x131 : a.tmps.getD 131 undef = s131 := hsame 131 (nwB.spec (by kernel_rfl))
  have x132 : a.tmps.getD 132 undef = s132 := hsame 132 (nwB.spec (by kernel_rfl))
  have x133 : a.tmps.getD 133 undef = s133 := hsame 133 (nwB.spec (by kernel_rfl))
  have x134 : a.tmps.getD 134 undef = .slice A n c := (hf 0 _ 134 rfl rfl (by decide)).1
  have x135 : a.tmps.getD 135 undef = .slice A2 m c2 := (hf 1 _ 135 rfl rfl (by decide)).1
  have x137 : a.tmps.getD 137 undef = .string (strOfNums (xs ++ putL rows)) := (hf 3 _ 137 rfl rfl (by decide)).1
  have x138 : a.tmps.getD 138 undef = .slice A15 m15 c15 := (hf 4 _ 138 rfl rfl (by decide)).1
  have x139 : a.tmps.getD 139 undef = .string (strOfNums (xs ++ putL rows)) := (hf 5 _ 139 rfl rfl (by decide)).1
  have x140 : a.tmps.getD 140 undef = .bool true := (hf 6 _ 140 rfl rfl (by decide)).1
  have x141 : a.tmps.getD 141 undef = .bool true := (hf 7 _ 141 rfl rfl (by decide)).1
  have x142 : a.tmps.getD 142 undef = .bool true := (hf 8 _ 142 rfl rfl (by decide)).1
  have x143 : a.tmps.getD 143 undef = .bool true := (hf 9 _ 143 rfl rfl (by decide)).1
  have hl : a.tmps = ((.slice A n c : Value) :: s1 :: (.slice A2 m c2 : Value) :: s3 :: s4 :: s5 :: (.bool true : Value) :: s7 :: s8 :: s9 :: s10 :: s11 :: s12 :: s13 :: s14 :: (.slice A15 m15 c15 : Value) :: s16 :: s17 :: s18 :: s19 :: s20 :: s21 :: s22 :: s23 :: s24 :: s25 :: s26 :: s27 :: s28 :: s29 :: s30 :: s31 :: s32 :: s33 :: s34 :: s35 :: s36 :: s37 :: s38 :: s39 :: s40 :: s41 :: s42 :: s43 :: s44 :: s45 :: s46 :: s47 :: s48 :: s49 :: s50 :: s51 :: s52 :: s53 :: s54 :: s55 :: s56 :: s57 :: s58 :: s59 :: s60 :: s61 :: s62 :: s63 :: s64 :: s65 :: s66 :: s67 :: s68 :: s69 :: s70 :: s71 :: s72 :: s73 :: s74 :: s75 :: s76 :: s77 :: s78 :: s79 :: s80 :: s81 :: s82 :: s83 :: s84 :: s85 :: s86 :: s87 :: s88 :: s89 :: s90 :: s91 :: s92 :: s93 :: s94 :: s95 :: s96 :: s97 :: s98 :: s99 :: s100 :: s101 :: s102 :: s103 :: s104 :: s105 :: s106 :: s107 :: s108 :: s109 :: s110 :: s111 :: s112 :: s113 :: s114 :: s115 :: s116 :: s117 :: s118 :: s119 :: s120 :: s121 :: s122 :: s123 :: s124 :: s125 :: s126 :: s127 :: s128 :: s129 :: s130 :: s131 :: s132 :: s133 :: (.slice A n c : Value) :: (.slice A2 m c2 : Value) :: (a.tmps.getD 136 undef : Value) :: (.string (strOfNums (xs ++ putL rows)) : Value) :: (.slice A15 m15 c15 : Value) :: (.string (strOfNums (xs ++ putL rows)) : Value) :: (.bool true : Value) :: (.bool true : Value) :: (.bool true : Value) :: (.bool true : Value) :: ([] : List Value)).toArray := by
    have h := lit a.tmps 144 hs
    have e : ((List.range 144).map (fun i => a.tmps.getD i undef)).toArray = ((a.tmps.getD 0 undef : Value) :: (a.tmps.getD 1 undef : Value) :: (a.tmps.getD 2 undef : Value) :: (a.tmps.getD 3 undef : Value) :: (a.tmps.getD 4 undef : Value) :: (a.tmps.getD 5 undef : Value) :: (a.tmps.getD 6 undef : Value) :: (a.tmps.getD 7 undef : Value) :: (a.tmps.getD 8 undef : Value) :: (a.tmps.getD 9 undef : Value) :: (a.tmps.getD 10 undef : Value) :: (a.tmps.getD 11 undef : Value) :: (a.tmps.getD 12 undef : Value) :: (a.tmps.getD 13 undef : Value) :: (a.tmps.getD 14 undef : Value) :: (a.tmps.getD 15 undef : Value) :: (a.tmps.getD 16 undef : Value) :: (a.tmps.getD 17 undef : Value) :: (a.tmps.getD 18 undef : Value) :: (a.tmps.getD 19 undef : Value) :: (a.tmps.getD 20 undef : Value) :: (a.tmps.getD 21 undef : Value) :: (a.tmps.getD 22 undef : Value) :: (a.tmps.getD 23 undef : Value) :: (a.tmps.getD 24 undef : Value) :: (a.tmps.getD 25 undef : Value) :: (a.tmps.getD 26 undef : Value) :: (a.tmps.getD 27 undef : Value) :: (a.tmps.getD 28 undef : Value) :: (a.tmps.getD 29 undef : Value) :: (a.tmps.getD 30 undef : Value) :: (a.tmps.getD 31 undef : Value) :: (a.tmps.getD 32 undef : Value) :: (a.tmps.getD 33 undef : Value) :: (a.tmps.getD 34 undef : Value) :: (a.tmps.getD 35 undef : Value) :: (a.tmps.getD 36 undef : Value) :: (a.tmps.getD 37 undef : Value) :: (a.tmps.getD 38 undef : Value) :: (a.tmps.getD 39 undef : Value) :: (a.tmps.getD 40 undef : Value) :: (a.tmps.getD 41 undef : Value) :: (a.tmps.getD 42 undef : Value) :: (a.tmps.getD 43 undef : Value) :: (a.tmps.getD 44 undef : Value) :: (a.tmps.getD 45 undef : Value) :: (a.tmps.getD 46 undef : Value) :: (a.tmps.getD 47 undef : Value) :: (a.tmps.getD 48 undef : Value) :: (a.tmps.getD 49 undef : Value) :: (a.tmps.getD 50 undef : Value) :: (a.tmps.getD 51 undef : Value) :: (a.tmps.getD 52 undef : Value) :: (a.tmps.getD 53 undef : Value) :: (a.tmps.getD 54 undef : Value) :: (a.tmps.getD 55 undef : Value) :: (a.tmps.getD 56 undef : Value) :: (a.tmps.getD 57 undef : Value) :: (a.tmps.getD 58 undef : Value) :: (a.tmps.getD 59 undef : Value) :: (a.tmps.getD 60 undef : Value) :: (a.tmps.getD 61 undef : Value) :: (a.tmps.getD 62 undef : Value) :: (a.tmps.getD 63 undef : Value) :: (a.tmps.getD 64 undef : Value) :: (a.tmps.getD 65 undef : Value) :: (a.tmps.getD 66 undef : Value) :: (a.tmps.getD 67 undef : Value) :: (a.tmps.getD 68 undef : Value) :: (a.tmps.getD 69 undef : Value) :: (a.tmps.getD 70 undef : Value) :: (a.tmps.getD 71 undef : Value) :: (a.tmps.getD 72 undef : Value) :: (a.tmps.getD 73 undef : Value) :: (a.tmps.getD 74 undef : Value) :: (a.tmps.getD 75 undef : Value) :: (a.tmps.getD 76 undef : Value) :: (a.tmps.getD 77 undef : Value) :: (a.tmps.getD 78 undef : Value) :: (a.tmps.getD 79 undef : Value) :: (a.tmps.getD 80 undef : Value) :: (a.tmps.getD 81 undef : Value) :: (a.tmps.getD 82 undef : Value) :: (a.tmps.getD 83 undef : Value) :: (a.tmps.getD 84 undef : Value) :: (a.tmps.getD 85 undef : Value) :: (a.tmps.getD 86 undef : Value) :: (a.tmps.getD 87 undef : Value) :: (a.tmps.getD 88 undef : Value) :: (a.tmps.getD 89 undef : Value) :: (a.tmps.getD 90 undef : Value) :: (a.tmps.getD 91 undef : Value) :: (a.tmps.getD 92 undef : Value) :: (a.tmps.getD 93 undef : Value) :: (a.tmps.getD 94 undef : Value) :: (a.tmps.getD 95 undef : Value) :: (a.tmps.getD 96 undef : Value) :: (a.tmps.getD 97 undef : Value) :: (a.tmps.getD 98 undef : Value) :: (a.tmps.getD 99 undef : Value) :: (a.tmps.getD 100 undef : Value) :: (a.tmps.getD 101 undef : Value) :: (a.tmps.getD 102 undef : Value) :: (a.tmps.getD 103 undef : Value) :: (a.tmps.getD 104 undef : Value) :: (a.tmps.getD 105 undef : Value) :: (a.tmps.getD 106 undef : Value) :: (a.tmps.getD 107 undef : Value) :: (a.tmps.getD 108 undef : Value) :: (a.tmps.getD 109 undef : Value) :: (a.tmps.getD 110 undef : Value) :: (a.tmps.getD 111 undef : Value) :: (a.tmps.getD 112 undef : Value) :: (a.tmps.getD 113 undef : Value) :: (a.tmps.getD 114 undef : Value) :: (a.tmps.getD 115 undef : Value) :: (a.tmps.getD 116 undef : Value) :: (a.tmps.getD 117 undef : Value) :: (a.tmps.getD 118 undef : Value) :: (a.tmps.getD 119 undef : Value) :: (a.tmps.getD 120 undef : Value) :: (a.tmps.getD 121 undef : Value) :: (a.tmps.getD 122 undef : Value) :: (a.tmps.getD 123 undef : Value) :: (a.tmps.getD 124 undef : Value) :: (a.tmps.getD 125 undef : Value) :: (a.tmps.getD 126 undef : Value) :: (a.tmps.getD 127 undef : Value) :: (a.tmps.getD 128 undef : Value) :: (a.tmps.getD 129 undef : Value) :: (a.tmps.getD 130 undef : Value) :: (a.tmps.getD 131 undef : Value) :: (a.tmps.getD 132 undef : Value) :: (a.tmps.getD 133 undef : Value) :: (a.tmps.getD 134 undef : Value) :: (a.tmps.getD 135 undef : Value) :: (a.tmps.getD 136 undef : Value) :: (a.tmps.getD 137 undef : Value) :: (a.tmps.getD 138 undef : Value) :: (a.tmps.getD 139 undef : Value) :: (a.tmps.getD 140 undef : Value) :: (a.tmps.getD 141 undef : Value) :: (a.tmps.getD 142 undef : Value) :: (a.tmps.getD 143 undef : Value) :: ([] : List Value)).toArray := rfl
    rw [e, x0, x1, x2, x3, x4, x5, x6, x7, x8, x9, x10, x11, x12, x13, x14, x15, x16, x17, x18, x19, x20, x21, x22, x23, x24, x25, x26, x27, x28, x29, x30, x31, x32, x33, x34, x35, x36, x37, x38, x39, x40, x41, x42, x43, x44, x45, x46, x47, x48, x49, x50, x51, x52, x53, x54, x55, x56, x57, x58, x59, x60, x61, x62, x63, x64, x65, x66, x67, x68, x69, x70, x71, x72, x73, x74, x75, x76, x77, x78, x79, x80, x81, x82, x83, x84, x85, x86, x87, x88, x89, x90, x91, x92, x93, x94, x95, x96, x97, x98, x99, x100, x101, x102, x103, x104, x105, x106, x107, x108, x109, x110, x111, x112, x113, x114, x115, x116, x117, x118, x119, x120, x121, x122, x123, x124, x125, x126, x127, x128, x129, x130, x131, x132, x133, x134, x135, x137, x138, x139, x140, x141, x142, x143] at h
    exact h
  obtain ⟨tmps, defers⟩ := a
  obtain rfl : defers = [] := hd
  have hl' : tmps = _ := hl
  rw [hl']
  exact hend w' _ (O 2) ⟨hb.os, hb.tape, hb.output, hb.size, hb.block⟩ (hf 2 _ 136 rfl rfl (by decide)).1 (hf 2 _ 136 rfl rfl (by decide)).2

end Go.Proofs.Ytcgmfbefikpkbaa
