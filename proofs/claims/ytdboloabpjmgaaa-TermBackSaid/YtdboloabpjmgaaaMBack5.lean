/-
  Merged: EnK, CntW, Ends, EndR, EndW, Men, EnU, LawTK, LvIn, LvsIn, TmInT.
-/
import Derived.Deep.AppendLies
import Derived.Deep.Slices
import Derived.ChangeArms
import Derived.Test.YtdboloabpjmgaaaMBack4
/-! EnK -/
namespace Go.Proofs.Ytdboloabpjmgaaa
open Go.RowKit Go.Proofs.YtdboloabpjmgaaaW.PrintWords Go.RegionInvYtdboloabpjmgaaa

def enC (p : Pl) (x : Tm × Int) : List Value := tmC p x.1 ++ [.int .i64 x.2]
theorem enC_len (p : Pl) (x : Tm × Int) : (enC p x).length = 9 := rfl
def KidsE (w : World) (S : Nat → Prop) (lo : Nat) (V : Value) (xs : List (Tm × Int)) : Prop :=
  ∃ (cells : List Value) (q : Nat → Pl), w.ownsRow lo 81 9 V xs.length cells ∧
    ∀ (i : Nat) (x : Tm × Int), xs[i]? = some x → (∀ (j : Nat) (v : Value), (enC (q i) x)[j]? = some v → cells[i * 9 + j]? = some v) ∧ TmS w S (q i) x.1
theorem KidsE.nil (w : World) (S : Nat → Prop) (lo : Nat) : KidsE w S lo (.slice none 0 0) [] := ⟨[], fun _ => default, own_nil _ _ _ _, fun i x h => by simp at h⟩
theorem KidsE.later {w w' : World} {S : Nat → Prop} {lo : Nat} {V : Value} {xs : List (Tm × Int)} (h : KidsE w S lo V xs) (hb : Below w.heap.size w w') : KidsE w' S lo V xs := by
  obtain ⟨cells, q, ho, hk⟩ := h
  exact ⟨cells, q, pw_own_below ho hb, fun i x hx => ⟨(hk i x hx).1, (hk i x hx).2.later hb⟩⟩
theorem KidsE.push {w w1 : World} {S : Nat → Prop} {lo : Nat} {V v1 : Value} {xs : List (Tm × Int)} {x : Tm × Int} {p : Pl} {cells : List Value} {q : Nat → Pl} (hS : ∀ b, S b → b < lo) (ho : w.ownsRow lo 81 9 V xs.length cells)
    (hk : ∀ (i : Nat) (x : Tm × Int), xs[i]? = some x → (∀ (j : Nat) (v : Value), (enC (q i) x)[j]? = some v → cells[i * 9 + j]? = some v) ∧ TmS w S (q i) x.1)
    (hx : TmS w S p x.1) (ho1 : w1.ownsRow lo 81 9 v1 (xs.length + 1) (cells ++ enC p x))
    (hg : w.grownBy w1 V.ownBlock) : KidsE w1 S lo v1 (xs ++ [x]) := by
  have keep : ∀ {p : Pl} {y : Tm}, TmS w S p y → TmS w1 S p y := fun h => h.same fun k hs hz => hg.block k hz fun e => by
    have := own_base ho k e.symm
    have := hS k hs
    omega
  have hl := own_len ho
  refine ⟨_, fun i => if i = xs.length then p else q i, by simpa using ho1, fun i y hy => ?_⟩
  rcases Nat.lt_or_ge i xs.length with hi | hi
  · rw [List.getElem?_append_left hi] at hy
    obtain ⟨h1, h2⟩ := hk i y hy
    simp only [if_neg (show ¬ i = xs.length by omega)]
    refine ⟨fun j v hv => ?_, keep h2⟩
    have hj : j < 9 := by have := (List.getElem?_eq_some_iff.1 hv).1; rwa [enC_len] at this
    rw [List.getElem?_append_left (by omega)]
    exact h1 j v hv
  · rw [List.getElem?_append_right hi] at hy
    have hi2 : i = xs.length := by
      cases e : i - xs.length with
      | zero => omega
      | succ j => rw [e] at hy; simp at hy
    subst hi2
    obtain rfl : x = y := by simpa using hy
    simp only [↓reduceIte]
    refine ⟨fun j v hv => ?_, keep hx⟩
    rw [List.getElem?_append_right (by omega), show xs.length * 9 + j - cells.length = j by omega]
    exact hv
def endsP (t : Tm) (d : Int) : List (Tm × Int) := if nK t = 0 then [(t, d)] else ((List.finRange (nK t)).map fun i => endsP (kidF t i) (d + moreZ t i)).flatten
termination_by SizeOf.sizeOf t
decreasing_by exact kidF_lt t i
theorem ends_leaf {t : Tm} {d : Int} (h : nK t = 0) : endsP t d = [(t, d)] := by rw [endsP, if_pos h]
theorem ends_node {t : Tm} {d : Int} (h : nK t ≠ 0) : endsP t d = ((List.finRange (nK t)).map fun i => endsP (kidF t i) (d + moreZ t i)).flatten := by rw [endsP, if_neg h]
end Go.Proofs.Ytdboloabpjmgaaa

/-! CntW -/
namespace Go.Proofs.Ytdboloabpjmgaaa
open Go.RowKit Go.Proofs.YtdboloabpjmgaaaW.PrintWords Go.RegionInvYtdboloabpjmgaaa

theorem below_drewN {B : Nat} {w w' : World} (h : Below B w w') (n : Nat) : Below B w (w'.drewN n) := ⟨h.os, h.tape, h.output, h.size, h.block⟩
set_option maxHeartbeats 4000000 in
theorem refleaf_calls (t : Tm) (p : Pl) (w : World) (hl : t.kids.length ≤ 9223372036854775807) : Calls Try.prog 77 #[tmV p t] w fun e w' => e = .returned (.bool (leafR t)) ∧ Below w.heap.size w w' := by
  obtain ⟨W, hW⟩ : ∃ W, W = w.alloc (tmO p t) := ⟨_, rfl⟩
  have hb : Below w.heap.size w W := by rw [hW]; exact below_alloc (Below.refl _ _) _
  have HX := Aside0.mk (show W.heap[w.heap.size]? = some (tmO p t) by rw [hW]; exact blk_new _ _)
  have HB := Aside0.mk hb
  clear hb
  unfold tmV
  unfold tmO at hW
  obtain ⟨tk, htk⟩ : ∃ x, t.kind = x := ⟨_, rfl⟩
  obtain ⟨L, hL⟩ : ∃ x, t.kids.length = x := ⟨_, rfl⟩
  obtain ⟨c0, c1, c2, c3, c4, c5, c6, c7⟩ := row8 HX.out
  rw [htk] at hW c0 ⊢
  rw [hL] at hW c7 hl ⊢
  obtain ⟨ar, har⟩ : ∃ x, x = arZ tk := ⟨_, rfl⟩
  have HR := Aside0.mk (show leafR t = decide (ar < 0 ∨ (L : Int) < ar) by unfold leafR; rw [htk, hL, har])
  have HAC := Aside0.mk (show ∀ w, Calls Try.prog 39 #[.int .i64 tk] w fun e w' => e = .returned (.int .i64 ar) ∧ w' = w from fun w => by rw [har]; exact refkids_calls _ _)
  clear htk hL har c1 c2 c3 c4 c5 c6
  go_enter Try.func77, Try.ntmps77
  go_upto_region 1 with (fail)
  rw [← hW]
  clear hW
  by_cases ha : ar < 0
  · have ha' : decide (ar < 0) = true := by simp [ha]
    have HZ := Aside0.mk (show leafR t = true by rw [HR.out]; exact decide_eq_true (.inl ha))
    go_quiet ((go_at_call 39; exact Calls.quiet_of_same (HAC.out _)))
    go_wp2
    go_ret
    rw [HZ.out]
    exact ⟨rfl, below_drewN HB.out _⟩
  · have ha' : decide (ar < 0) = false := by simp; omega
    have HZ := Aside0.mk (show leafR t = decide ((L : Int) < ar) by rw [HR.out]; exact decide_eq_decide.2 ⟨fun h => h.resolve_left ha, .inr⟩)
    go_quiet ((go_at_call 39; exact Calls.quiet_of_same (HAC.out _)))
    go_wp2
    go_ret
    rw [HZ.out]
    exact ⟨rfl, below_drewN HB.out _⟩
end Go.Proofs.Ytdboloabpjmgaaa

/-! Ends -/
namespace Go.Proofs.Ytdboloabpjmgaaa
open Go.RowKit Go.Proofs.YtdboloabpjmgaaaW.PrintWords Go.RegionInvYtdboloabpjmgaaa

set_option maxHeartbeats 4000000 in
theorem refbinds_calls (t : Tm) (i : Nat) (k : Int) (hk : t.kind = k) (w : World) : Calls Try.prog 100 #[.int .i64 k, .int .i64 i] w fun e w' => e = .returned (.int .i64 (moreZ t i)) ∧ w' = w := by
  obtain ⟨m, hm⟩ : ∃ m, moreZ t i = m := ⟨_, rfl⟩
  obtain ⟨ar, har⟩ : ∃ x, arZ k = x := ⟨_, rfl⟩
  have HAC := Aside0.mk (show ∀ w, Calls Try.prog 39 #[.int .i64 k] w fun e w' => e = .returned (.int .i64 ar) ∧ w' = w from fun w => by rw [← har]; exact refkids_calls _ _)
  have HM := Aside0.mk hm
  have hr := arZ_in k
  rw [har] at hr
  have HE := Aside0.mk (show m = if (i : Int) = ar - 1 ∧ k ≠ 6 then 1 else 0 by rw [← hm]; unfold moreZ; rw [hk, har])
  rw [hm]
  clear hm har hk
  go_enter Try.func100, Try.ntmps100
  by_cases h6 : k = 6
  · have b1 : (k == 6) = true := by simp [h6]
    have b2 : (k != 6) = false := by simp [h6]
    have HZ := Aside0.mk (show m = 0 by rw [HE.out, if_neg (fun h => h.2 h6)])
    clear h6
    go_wp2
    go_ret
    rw [HZ.out]
    exact ⟨rfl, rfl⟩
  · have b1 : (k == 6) = false := by simp [h6]
    have b2 : (k != 6) = true := by simp [h6]
    by_cases hi : (i : Int) = ar - 1
    · have b3 : ((i : Int) == ar - 1) = true := by simp [hi]
      have HZ := Aside0.mk (show m = 1 by rw [HE.out, if_pos ⟨hi, h6⟩])
      clear h6 hi
      go_wp2_with (go_at_call 39; go_must (refine (HAC.out _).mono ?_; rintro e w2 ⟨rfl, rfl⟩))
      go_ret
      rw [HZ.out]
      exact ⟨rfl, rfl⟩
    · have b3 : ((i : Int) == ar - 1) = false := by simp [hi]
      have HZ := Aside0.mk (show m = 0 by rw [HE.out, if_neg (fun h => hi h.1)])
      clear h6 hi
      go_wp2_with (go_at_call 39; go_must (refine (HAC.out _).mono ?_; rintro e w2 ⟨rfl, rfl⟩))
      go_ret
      rw [HZ.out]
      exact ⟨rfl, rfl⟩
theorem infoEn : (Try.prog.info? 81).map (fun i => (i.zero, i.size, i.bytes)) = some (some (.agg #[.int .i64 0, .int .i64 0, .string ⟨#[]⟩, .int .i64 0, .int .i64 0, .slice none 0 0, .slice none 0 0, .slice none 0 0, .int .i64 0]), 9, 128) := by kernel_rfl
end Go.Proofs.Ytdboloabpjmgaaa

/-! EndR -/
namespace Go.Proofs.Ytdboloabpjmgaaa
open Go.RowKit Go.Proofs.YtdboloabpjmgaaaW.PrintWords Go.RegionInvYtdboloabpjmgaaa Go.RegionEYtdboloabpjmgaaa
set_option linter.unusedVariables false

def EndsPost (w : World) (B lo : Nat) (V : Value) (ys : List (Tm × Int)) (e : Ending) (w' : World) : Prop := ∃ V', e = .returned V' ∧ KidsE w' (fun k => k < B) lo V' ys ∧ Grew V V' w w'
def EnF (B lo : Nat) (ys : List (Tm × Int)) (v : Value) (w : World) (O : Nat → Prop) : Prop := KidsE w (fun k => k < B) lo v ys ∧ ∀ k, v.ownBlock = some k → O k
theorem KidsE.same {w w' : World} {S : Nat → Prop} {lo : Nat} {V : Value} {xs : List (Tm × Int)} (h : KidsE w S lo V xs) (h1 : ∀ k, V.ownBlock = some k → w'.heap[k]? = w.heap[k]?) (h2 : ∀ k, S k → k < w.heap.size → w'.heap[k]? = w.heap[k]?) : KidsE w' S lo V xs := by
  obtain ⟨cells, q, ho, hk⟩ := h
  exact ⟨cells, q, ownsRow_same ho h1, fun i x hx => ⟨(hk i x hx).1, (hk i x hx).2.same h2⟩⟩
theorem KidsE.base {w : World} {S : Nat → Prop} {lo : Nat} {V : Value} {xs : List (Tm × Int)} (h : KidsE w S lo V xs) {k : Nat} (hk : V.ownBlock = some k) : lo ≤ k ∧ k < w.heap.size := by
  obtain ⟨cells, q, ho, _⟩ := h
  exact ⟨own_base ho k hk, own_lt ho k hk⟩
theorem stableE_en {w0 : World} {E : Nat → Nat → Prop} {B lo : Nat} {ys : List (Tm × Int)} (hT : ∀ k, k < B → Fix w0 E k) : StableE w0 E (EnF B lo ys) := by
  rintro v w w' O ⟨h, hO⟩ hz hk
  exact ⟨h.same (fun k e => hk k (h.base e).2 (.inr (hO k e))) (fun k hk' hz' => hk k hz' (.inl (hT k hk'))), hO⟩

def en_ops : List Oper := [
  { dst := some 35, op := Go.Op.load 28 (Go.Operand.tmp 8), type := 28, pos := "ref.go:223", after := #[], guard := none },
  { dst := some 36, op := Go.Op.move (Go.Operand.tmp 1), type := 3, pos := "ref.go:223", after := #[], guard := none },
  { dst := some 37, op := Go.Op.fieldAddr 28 (Go.Operand.tmp 3) 0, type := 0, pos := "ref.go:223", after := #[], guard := none },
  { dst := some 38, op := Go.Op.load 3 (Go.Operand.tmp 37), type := 3, pos := "ref.go:223", after := #[{ on := 2, ground := Go.Ground.data }], guard := none },
  { dst := some 39, op := Go.Op.move (Go.Operand.tmp 7), type := 3, pos := "ref.go:223", after := #[], guard := none },
  { dst := some 40, op := Go.Op.call { callee := Go.Callee.value (Go.Operand.func 100), args := #[Go.Operand.tmp 38, Go.Operand.tmp 39], argTypes := #[3, 3] }, type := 3, pos := "ref.go:223", after := #[{ on := 3, ground := Go.Ground.data }, { on := 4, ground := Go.Ground.data }], guard := none },
  { dst := some 41, op := Go.Op.binOp Go.BinOp.add 3 (Go.Operand.tmp 36) (Go.Operand.tmp 40) 3, type := 3, pos := "ref.go:223", after := #[{ on := 1, ground := Go.Ground.data }, { on := 5, ground := Go.Ground.data }], guard := none },
  { dst := some 42, op := Go.Op.move (Go.Operand.tmp 2), type := 78, pos := "ref.go:223", after := #[], guard := none },
  { dst := some 43, op := Go.Op.call { callee := Go.Callee.value (Go.Operand.func 80), args := #[Go.Operand.tmp 35, Go.Operand.tmp 41, Go.Operand.tmp 42], argTypes := #[28, 3, 78] }, type := 78, pos := "ref.go:223", after := #[{ on := 0, ground := Go.Ground.data }, { on := 6, ground := Go.Ground.data }, { on := 7, ground := Go.Ground.data }, { on := 5, ground := Go.Ground.chain }], guard := none },
  { dst := some 2, op := Go.Op.assign (Go.Operand.tmp 43), type := 78, pos := "ref.go:223", after := #[{ on := 8, ground := Go.Ground.data }, { on := 8, ground := Go.Ground.chain }, { on := 0, ground := Go.Ground.phase }, { on := 1, ground := Go.Ground.phase }, { on := 2, ground := Go.Ground.phase }, { on := 3, ground := Go.Ground.phase }, { on := 4, ground := Go.Ground.phase }, { on := 5, ground := Go.Ground.phase }, { on := 6, ground := Go.Ground.phase }, { on := 7, ground := Go.Ground.phase }, { on := 8, ground := Go.Ground.phase }], guard := none }]
def en_F (w0 : World) (Bx Tb lo B : Nat) (q : Pl) (x : Tm) (p : Pl) (t : Tm) (i : Nat) (d : Int) (l : Value) (ys zs : List (Tm × Int)) : Nat → (Nat → Value) → Value → World → (Nat → Prop) → Prop := fun rix => match rix with
  | 0 => fun _ v _ _ => v = tmV q x
  | 1 => fun _ v _ _ => v = .int .i64 d
  | 2 => fun _ v _ _ => v = .pointer (some ⟨Tb, 0, none⟩)
  | 3 => fun _ v _ _ => v = .int .i64 t.kind
  | 4 => fun _ v _ _ => v = .int .i64 i
  | 5 => fun _ v _ _ => v = .int .i64 (moreZ t i)
  | 6 => fun _ v _ _ => v = .int .i64 (d + moreZ t i)
  | 7 => fun _ v _ _ => v = l
  | 8 => fun τ v w O => EnF B lo zs v w O
  | 9 => fun τ v w O => EnF B lo zs v w O
  | _ => fun _ _ _ _ => True
def en_C : Nat → List Nat := fun rix => match rix with
  | 9 => [8]
  | _ => []
theorem en_nw1 : nwB en_ops.toArray 1 = true := by kernel_rfl
theorem en_nw3 : nwB en_ops.toArray 3 = true := by kernel_rfl
theorem en_nw7 : nwB en_ops.toArray 7 = true := by kernel_rfl
theorem en_nw8 : nwB en_ops.toArray 8 = true := by kernel_rfl
set_option maxRecDepth 100000 in
set_option maxHeartbeats 8000000 in
theorem en_obs (w0 : World) (Bx Tb lo B : Nat) (q : Pl) (x : Tm) (p : Pl) (t : Tm) (i : Nat) (d : Int) (l : Value) (ys zs : List (Tm × Int)) (hB : w0.heap[Bx]? = some (tmO q x)) (hT : w0.heap[Tb]? = some (tmO p t)) (hin : TmIn w0 B q x) (hK : KidsE w0 (fun k => k < B) lo l ys) (hBl : B ≤ lo) (hlo : lo ≤ w0.heap.size) (hVB : l.ownBlock ≠ some Bx) (hVT : l.ownBlock ≠ some Tb) (hr : -9223372036854775808 ≤ d + moreZ t i ∧ d + moreZ t i ≤ 9223372036854775807) (hIH : ∀ w, w0.heap.size ≤ w.heap.size → TmIn w B q x → KidsE w (fun k => k < B) lo l ys → Calls Try.prog 80 #[tmV q x, .int .i64 (d + moreZ t i), l] w (EndsPost w B lo l zs)) (Q : Exit → Act → World → Prop) (a0 : Act) (hi1 : a0.tmps.getD 1 undef = .int .i64 d) (hi2 : a0.tmps.getD 2 undef = l) (hi3 : a0.tmps.getD 3 undef = .pointer (some ⟨Tb, 0, none⟩)) (hi7 : a0.tmps.getD 7 undef = .int .i64 i) (hi8 : a0.tmps.getD 8 undef = .pointer (some ⟨Bx, 0, none⟩)) :
    ObsE Try.prog en_ops.toArray Q (est2 8 8 (fun k => l.ownBlock = some k) (fun _ => False)) en_C (en_F w0 Bx Tb lo B q x p t i d l ys zs) a0 w0 en_ops.toArray.toList 0 := by
  have nw1 := en_nw1
  have nw3 := en_nw3
  have nw7 := en_nw7
  have nw8 := en_nw8
  refine ⟨?_, ?_, ?_, ?_, ?_, ?_, ?_, ?_, ?_, ?_, trivial⟩
  · refine ⟨⟨fun τ => stableE_det _, leans_not⟩, ?_⟩
    intro a w O hk
    have e8 : a.eval (.tmp 8) = .pointer (some ⟨Bx, 0, none⟩) := (hk.init 8 (initialB_of_nw nw8)).trans hi8
    have xB := (hk.fix Bx (est2_fix (blk_lt hB) (fun e => hVB e) (fun e => e.elim))).trans hB
    exact obE_loadRow rfl e8 xB Try.underlying28 rfl (by kernel_rfl) (wanted_none rfl) rfl
  · refine ⟨⟨fun τ => stableE_det _, leans_not⟩, ?_⟩
    intro a w O hk
    have e1 : a.eval (.tmp 1) = .int .i64 d := (hk.init 1 (initialB_of_nw nw1)).trans hi1
    exact toE (ob_move rfl e1 (wanted_none rfl) rfl)
  · refine ⟨⟨fun τ => stableE_det _, leans_not⟩, ?_⟩
    intro a w O hk
    have e3 : a.eval (.tmp 3) = .pointer (some ⟨Tb, 0, none⟩) := (hk.init 3 (initialB_of_nw nw3)).trans hi3
    exact obE_run (wanted_none rfl) (by unfold execOp; simp only []; rw [e3]; go_simp) rfl
  · refine ⟨⟨fun τ => stableE_det _, leans_not⟩, ?_⟩
    intro a w O hk
    have e37 : a.eval (.tmp 37) = .pointer (some ⟨Tb, 0, none⟩) := hk.fact 2 _ 37 rfl rfl rfl rfl
    have xT := (hk.fix Tb (est2_fix (blk_lt hT) (fun e => hVT e) (fun e => e.elim))).trans hT
    obtain ⟨p0, p1, p2, p3, p4, p5, p6, p7⟩ := row8 xT
    exact obE_run (wanted_none rfl) (by unfold execOp; simp only []; rw [e37]; go_simp) rfl
  · refine ⟨⟨fun τ => stableE_det _, leans_not⟩, ?_⟩
    intro a w O hk
    have e7 : a.eval (.tmp 7) = .int .i64 i := (hk.init 7 (initialB_of_nw nw7)).trans hi7
    exact toE (ob_move rfl e7 (wanted_none rfl) rfl)
  · refine ⟨⟨fun τ => stableE_det _, leans_not⟩, ?_⟩
    intro a w O hk
    have e38 : a.eval (.tmp 38) = .int .i64 t.kind := hk.fact 3 _ 38 rfl rfl rfl rfl
    have e39 : a.eval (.tmp 39) = .int .i64 i := hk.fact 4 _ 39 rfl rfl rfl rfl
    exact obE_callV #[.int .i64 t.kind, .int .i64 i] rfl rfl rfl rfl (by simp only [List.map_cons, List.map_nil]; rw [e38, e39]) (wanted_none rfl) ((refbinds_calls t i _ rfl w).mono fun e w' h => ⟨h.1, h.2 ▸ Below.refl _ _⟩)
  · refine ⟨⟨fun τ => stableE_det _, leans_not⟩, ?_⟩
    intro a w O hk
    have e36 : a.eval (.tmp 36) = .int .i64 d := hk.fact 1 _ 36 rfl rfl rfl rfl
    have e40 : a.eval (.tmp 40) = .int .i64 (moreZ t i) := hk.fact 5 _ 40 rfl rfl rfl rfl
    have hw9 : IntKind.i64.wrap (d + moreZ t i) = d + moreZ t i := IntWalk.i64_in _ hr
    exact obE_run (wanted_none rfl) (by unfold execOp; simp only []; rw [e36, e40]; go_simp) rfl
  · refine ⟨⟨fun τ => stableE_det _, leans_not⟩, ?_⟩
    intro a w O hk
    have e2 : a.eval (.tmp 2) = l := (hk.init 2 rfl).trans hi2
    exact toE (ob_move rfl e2 (wanted_none rfl) rfl)
  · refine ⟨⟨fun τ => stableE_en (fun k hk' => est2_fix (by have hk' : k < B := hk'; omega) (fun e => by have := hK.base e; have hk' : k < B := hk'; omega) (fun e => e.elim)), leans_not⟩, ?_⟩
    intro a w O hk
    have e35 : a.eval (.tmp 35) = tmV q x := hk.fact 0 _ 35 rfl rfl rfl rfl
    have e41 : a.eval (.tmp 41) = .int .i64 (d + moreZ t i) := hk.fact 6 _ 41 rfl rfl rfl rfl
    have e42 : a.eval (.tmp 42) = l := hk.fact 7 _ 42 rfl rfl rfl rfl
    have hKw := hK.same (w' := w) (fun k e => hk.est 8 _ rfl (.inl rfl) k (.inl ⟨rfl, e⟩)) (fun k hk' _ => hk.fix k (est2_fix (by have hk1 : k < B := hk'; omega) (fun e => by have := hK.base e; have hk1 : k < B := hk'; omega) (fun e => e.elim)))
    have hinw := hin.same (w' := w) (fun k hk' _ => hk.fix k (est2_fix (by have hk1 : k < B := hk'; omega) (fun e => by have := hK.base e; have hk1 : k < B := hk'; omega) (fun e => e.elim)))
    refine obE_call #[tmV q x, .int .i64 (d + moreZ t i), l] rfl rfl rfl rfl (by simp only [List.map_cons, List.map_nil]; rw [e35, e41, e42]) (wanted_none rfl) ((hIH w hk.world.size hinw hKw).mono ?_)
    rintro e w' ⟨V', rfl, hE, hG⟩
    exact ⟨V', fun k => V'.ownBlock = some k, rfl, ⟨hE, fun k h => h⟩, hG.1.mono (fun k h => .inr (.inl ⟨rfl, h⟩)), fun k h => (hG.2 k h).elim (fun h => .inl (.inr (.inl ⟨rfl, h⟩))) (fun h2 => .inr ⟨h2, (hE.base h).2⟩)⟩
  · refine ⟨⟨fun τ => stableE_en (fun k hk' => est2_fix (by have hk' : k < B := hk'; omega) (fun e => by have := hK.base e; have hk' : k < B := hk'; omega) (fun e => e.elim)), leans_not⟩, ?_⟩
    intro a w O hk
    have f43 := hk.fact 8 _ 43 rfl rfl rfl rfl
    have g43 := hk.owns 8 rfl rfl
    exact toE (ob_assignO (O 8) rfl rfl (wanted_none rfl) f43 (fun k h => ⟨8, by simp [en_C], h⟩))
set_option maxRecDepth 100000 in
set_option maxHeartbeats 8000000 in
theorem en_region {Q : Exit → Act → World → Prop} {id : Nat} (w0 : World) (Bx Tb lo B : Nat) (q : Pl) (x : Tm) (p : Pl) (t : Tm) (i : Nat) (d : Int) (l : Value) (ys zs : List (Tm × Int)) {s0 s4 s5 s6 s9 s10 s11 s12 s13 s14 s15 s16 s17 s18 s19 s20 s21 s22 s23 s24 s25 s26 s27 s28 s29 s30 s31 s32 s33 s34 s35 s36 s37 s38 s39 s40 s41 s42 s43 s44 s45 : Value} (hB : w0.heap[Bx]? = some (tmO q x)) (hT : w0.heap[Tb]? = some (tmO p t)) (hin : TmIn w0 B q x) (hK : KidsE w0 (fun k => k < B) lo l ys) (hBl : B ≤ lo) (hlo : lo ≤ w0.heap.size) (hVB : l.ownBlock ≠ some Bx) (hVT : l.ownBlock ≠ some Tb) (hr : -9223372036854775808 ≤ d + moreZ t i ∧ d + moreZ t i ≤ 9223372036854775807) (hIH : ∀ w, w0.heap.size ≤ w.heap.size → TmIn w B q x → KidsE w (fun k => k < B) lo l ys → Calls Try.prog 80 #[tmV q x, .int .i64 (d + moreZ t i), l] w (EndsPost w B lo l zs))
    (hend : ∀ (w' : World) (u2 : Value) (u43 : Value) (O9 : Nat → Prop), Chg (fun k => (fun k => l.ownBlock = some k) k ∨ (fun _ => False) k) w0 w' → (EnF B lo zs u2 w' O9) → (∀ k, O9 k → k < w'.heap.size ∧ ¬ Fix w0 (est2 8 8 (fun k => l.ownBlock = some k) (fun _ => False)) k) → Q .normal { tmps := (s0 :: (.int .i64 d) :: u2 :: (.pointer (some ⟨Tb, 0, none⟩)) :: s4 :: s5 :: s6 :: (.int .i64 i) :: (.pointer (some ⟨Bx, 0, none⟩)) :: s9 :: s10 :: s11 :: s12 :: s13 :: s14 :: s15 :: s16 :: s17 :: s18 :: s19 :: s20 :: s21 :: s22 :: s23 :: s24 :: s25 :: s26 :: s27 :: s28 :: s29 :: s30 :: s31 :: s32 :: s33 :: s34 :: (tmV q x) :: (.int .i64 d) :: (.pointer (some ⟨Tb, 0, none⟩)) :: (.int .i64 t.kind) :: (.int .i64 i) :: (.int .i64 (moreZ t i)) :: (.int .i64 (d + moreZ t i)) :: l :: u43 :: s44 :: s45 :: [] : List Value).toArray, defers := [] } w') :
    (Code.region id en_ops.toArray true).wp Try.prog Q { tmps := (s0 :: (.int .i64 d) :: l :: (.pointer (some ⟨Tb, 0, none⟩)) :: s4 :: s5 :: s6 :: (.int .i64 i) :: (.pointer (some ⟨Bx, 0, none⟩)) :: s9 :: s10 :: s11 :: s12 :: s13 :: s14 :: s15 :: s16 :: s17 :: s18 :: s19 :: s20 :: s21 :: s22 :: s23 :: s24 :: s25 :: s26 :: s27 :: s28 :: s29 :: s30 :: s31 :: s32 :: s33 :: s34 :: s35 :: s36 :: s37 :: s38 :: s39 :: s40 :: s41 :: s42 :: s43 :: s44 :: s45 :: [] : List Value).toArray, defers := [] } w0 := by
  refine wp_region_est (by kernel_rfl) (est2 8 8 (fun k => l.ownBlock = some k) (fun _ => False)) en_C (en_F w0 Bx Tb lo B q x p t i d l ys zs) (est2_dis (fun k h h2 => h2)) (est2_range (fun k hk => (hK.base hk).2) (fun k hk => hk.elim)) (by rfl) (by kernel_rfl) (en_obs w0.drew Bx Tb lo B q x p t i d l ys zs hB hT (TmS.same hin (fun _ _ _ => rfl)) (hK.same (fun _ _ => rfl) (fun _ _ _ => rfl)) hBl hlo hVB hVT hr (fun w h1 h2 h3 => hIH w h1 h2 h3) _ _ rfl rfl rfl rfl rfl) ?_
  intro a w' O hd hs hb hf hf2 ha hsame
  have hl := slots_eq (ops := en_ops.toArray) [(2, a.tmps.getD 2 undef), (35, tmV q x), (36, .int .i64 d), (37, .pointer (some ⟨Tb, 0, none⟩)), (38, .int .i64 t.kind), (39, .int .i64 i), (40, .int .i64 (moreZ t i)), (41, .int .i64 (d + moreZ t i)), (42, l), (43, a.tmps.getD 43 undef)] (show a.tmps.size = 46 from hs) (fun i h => hsame i h) ⟨rfl, (hf 0 _ 35 rfl rfl (by decide)).1, (hf 1 _ 36 rfl rfl (by decide)).1, (hf 2 _ 37 rfl rfl (by decide)).1, (hf 3 _ 38 rfl rfl (by decide)).1, (hf 4 _ 39 rfl rfl (by decide)).1, (hf 5 _ 40 rfl rfl (by decide)).1, (hf 6 _ 41 rfl rfl (by decide)).1, (hf 7 _ 42 rfl rfl (by decide)).1, rfl, trivial⟩ (by kernel_rfl)
  obtain ⟨tmps, defers⟩ := a
  obtain rfl : defers = [] := hd
  have hl' : tmps = _ := hl
  rw [hl']
  have hb' := est2_chg hb
  refine Eq.mp ?_ (hend w' (tmps.getD 2 undef) (tmps.getD 43 undef) (O 9) ⟨hb'.os, hb'.tape, hb'.output, hb'.size, hb'.block⟩ (hf 9 _ 2 rfl rfl (by decide)).1 (hf 9 _ 2 rfl rfl (by decide)).2)
  kernel_rfl

end Go.Proofs.Ytdboloabpjmgaaa

/-! EndW -/
namespace Go.Proofs.Ytdboloabpjmgaaa
open Go.RowKit Go.Proofs.YtdboloabpjmgaaaW.PrintWords Go.RegionInvYtdboloabpjmgaaa Go.RegionEYtdboloabpjmgaaa

theorem en_grew {w0 w' : World} {B lo : Nat} {l V : Value} {zs : List (Tm × Int)} {O : Nat → Prop} (hC : Chg (fun k => (fun k => l.ownBlock = some k) k ∨ (fun _ => False) k) w0 w') (hF : EnF B lo zs V w' O)
    (hO : ∀ k, O k → k < w'.heap.size ∧ ¬ Fix w0 (est2 8 8 (fun k => l.ownBlock = some k) (fun _ => False)) k) : KidsE w' (fun k => k < B) lo V zs ∧ Grew l V w0 w' := by
  refine ⟨hF.1, hC.mono fun k h => h.elim id False.elim, fun k hk => ?_⟩
  rcases Nat.lt_or_ge k w0.heap.size with hz | hz
  · by_cases e : l.ownBlock = some k
    · exact .inl e
    · exact absurd (est2_fix hz e (fun h => h.elim)) (hO k (hF.2 k hk)).2
  · exact .inr hz
theorem ends_len (N : Nat) : ∀ (t : Tm), SizeOf.sizeOf t < N → ∀ (d : Int), (endsP t d).length ≤ sizeT t := by
  induction N with
  | zero => intro t h; omega
  | succ N ih =>
    intro t hN d
    by_cases h0 : nK t = 0
    · rw [ends_leaf h0, size_leaf h0]; exact Nat.le_refl _
    · rw [ends_node h0, size_eq]
      have key : ∀ (xs : List (Fin (nK t))), ((xs.map fun i => endsP (kidF t i) (d + moreZ t i)).flatten).length ≤ sumK t xs := by
        intro xs
        induction xs with
        | nil => exact Nat.le_refl _
        | cons x r ihr =>
          have e1 : sumK t (x :: r) = sizeT (kidF t x) + sumK t r := by unfold sumK; rw [List.map_cons, List.sum_cons]
          rw [List.map_cons, List.flatten_cons, List.length_append, e1]
          have := ih (kidF t x) (by have := kidF_lt t x; omega) (d + moreZ t x)
          omega
      have := key (List.finRange (nK t))
      omega
def sumD (t : Tm) (xs : List (Fin (nK t))) : Nat := (xs.map fun i => sizeT (kidF t i)).sum
def endD (t : Tm) (d : Int) (xs : List (Fin (nK t))) : List (Tm × Int) := (xs.map fun i => endsP (kidF t i) (d + moreZ t i)).flatten
set_option maxRecDepth 100000 in
set_option maxHeartbeats 4000000 in
theorem ends_calls (N : Nat) : ∀ (t : Tm), SizeOf.sizeOf t < N → ∀ (p : Pl) (B lo : Nat) (d : Int) (V : Value) (xs : List (Tm × Int)) (w : World), TmIn w B p t → B ≤ lo → lo ≤ w.heap.size → 0 ≤ d → d + depthT t ≤ 10000 → xs.length + sizeT t ≤ 30000 → KidsE w (fun k => k < B) lo V xs →
    Calls Try.prog 80 #[tmV p t, .int .i64 d, V] w (EndsPost w B lo V (xs ++ endsP t d)) := by
  induction N with
  | zero => intro t h; omega
  | succ N ih =>
    intro t hN p B lo d V xs w hin hBl hlo hd0 hd1 hsz hK
    have IH := Aside0.mk ih
    have HNN := Aside0.mk hN
    have HK := Aside0.mk hK
    have hsp := size_pos t
    obtain ⟨cells0, q0, hown0, -⟩ := hK
    obtain ⟨n, hn⟩ : ∃ x, xs.length = x := ⟨_, rfl⟩
    rw [hn] at hown0 hsz
    obtain ⟨A, c, rfl⟩ := own_slice hown0
    have HNX := Aside0.mk hn
    obtain ⟨W, hW⟩ : ∃ W, W = w.alloc (tmO p t) := ⟨_, rfl⟩
    have hb : Below w.heap.size w W := by rw [hW]; exact below_alloc (Below.refl _ _) _
    have HB := Aside0.mk hb
    have HX := Aside0.mk (show W.heap[w.heap.size]? = some (tmO p t) by rw [hW]; exact blk_new _ _)
    have HIN := Aside0.mk hin
    have hlen := hin.len
    have HD := Aside0.mk hd1
    have HSZ := Aside0.mk hsz
    have hn9 : n ≤ 30000 := by omega
    obtain ⟨ar, har⟩ : ∃ x, arZ t.kind = x := ⟨_, rfl⟩
    have HAC := Aside0.mk (show ∀ w, Calls Try.prog 39 #[.int .i64 t.kind] w fun e w' => e = .returned (.int .i64 ar) ∧ w' = w from fun w => by rw [← har]; exact refkids_calls _ _)
    clear ih hN hown0 hin hb hd1 hsz hn hsp
    by_cases h0 : nK t = 0
    · have HEL := Aside0.mk (ends_leaf (d := d) h0)
      cases hlf : leafR t with
      | true =>
        have HLF := Aside0.mk hlf
        clear hlf h0
        unfold tmV
        unfold tmO at hW
        go_enter Try.func80, Try.ntmps80
        go_upto_region 1 with (fail)
        rw [← hW]
        clear hW
        go_upto_region 2 with (first
          | (refine wpList_load_row rfl 28 _ rfl (w.heap.size) rfl 28 _ (0, 0) _ HX.out Try.underlying28 rfl (by kernel_rfl) ?_)
          | (go_at_call 77; go_must (refine (refleaf_calls t p W (by omega)).mono ?_; rintro e w2 ⟨rfl, hb⟩; rw [HLF.out]; have HBW := Aside0.mk hb; have HB2 := Aside0.mk (below_then HB.out HB.out.size hb); have HX2 := Aside0.mk ((hb.block _ (blk_lt HX.out)).trans HX.out); clear hb)))
        obtain ⟨W3, hW3⟩ : ∃ W3, W3 = w2.alloc (.cells (enC p (t, d)).toArray 81 (0, 0)) := ⟨_, rfl⟩
        have hW3' : W3 = _ := hW3
        simp only [enC, tmC, List.cons_append, List.nil_append] at hW3'
        have hb3 : Below w2.heap.size w2 W3 := by rw [hW3]; exact below_alloc (Below.refl _ _) _
        have HB3 := Aside0.mk (below_then HB2.out HB2.out.size hb3)
        have HR3 := Aside0.mk (show W3.heap[w2.heap.size]? = some (.cells (enC p (t, d)).toArray 81 (0, 0)) by rw [hW3]; exact blk_new _ _)
        obtain ⟨cells, q, hown, hkids⟩ := HK.out.later HB3.out
        rw [HNX.out] at hown
        have HOWN := Aside0.mk hown
        have HKID := Aside0.mk hkids
        have hlo3 := Nat.le_trans hlo HB3.out.size
        clear hW3 hb3 hown hkids
        go_wp2_with (first
          | (refine wpList_load_row rfl 28 _ rfl (w.heap.size) rfl 28 _ (0, 0) _ HX2.out Try.underlying28 rfl (by kernel_rfl) ?_)
          | (rw [← hW3']; refine print_append_at lo rfl (.tmp 17) (.tmp 21) 78 81 _ 9 128 rfl Try.underlying78 infoEn rfl (by decide) (by decide) (.slice A n c) n cells (enC p (t, d)) rfl rfl HR3.out rfl (List.all_eq_true.1 rfl) HOWN.out (by omega) hlo3 ?_; intro v1 w1 ho1 hg hat; have HG1 := Aside0.mk (Grew.of_append hg hat); have HE1 := Aside0.mk (KidsE.push (x := (t, d)) (fun b hb => Nat.lt_of_lt_of_le hb hBl) (by rw [HNX.out]; exact HOWN.out) HKID.out (TmIn.stay HIN.out (HB3.out.mono (Nat.le_trans hBl hlo))) (by rw [HNX.out]; exact ho1) hg); clear ho1 hg hat))
        go_ret
        rw [HEL.out]
        exact ⟨v1, rfl, HE1.out, Grew.trans (w1 := W3) ⟨Chg.of_below HB3.out, fun _ h => .inl h⟩ HG1.out⟩
      | false =>
        have HLF := Aside0.mk hlf
        have ha0 : ar = 0 := by have := nK_eq hlf; rw [h0, har] at this; omega
        subst ha0
        clear hlf h0
        unfold tmV
        unfold tmO at hW
        go_enter Try.func80, Try.ntmps80
        go_upto_region 1 with (fail)
        rw [← hW]
        clear hW
        go_upto_region 2 with (first
          | (refine wpList_load_row rfl 28 _ rfl (w.heap.size) rfl 28 _ (0, 0) _ HX.out Try.underlying28 rfl (by kernel_rfl) ?_)
          | (go_at_call 77; go_must (refine (refleaf_calls t p W (by omega)).mono ?_; rintro e w2 ⟨rfl, hb⟩; rw [HLF.out]; have HBW := Aside0.mk hb; have HB2 := Aside0.mk (below_then HB.out HB.out.size hb); have HX2 := Aside0.mk ((hb.block _ (blk_lt HX.out)).trans HX.out); have c0 := (row8 HX2.out).1; clear hb))
          | (go_at_call 39; go_must (refine (HAC.out _).mono ?_; rintro e w3 ⟨rfl, h3⟩; have h3 := h3.symm; subst h3)))
        obtain ⟨W3, hW3⟩ : ∃ W3, W3 = w2.alloc (.cells (enC p (t, d)).toArray 81 (0, 0)) := ⟨_, rfl⟩
        have hW3' : W3 = _ := hW3
        simp only [enC, tmC, List.cons_append, List.nil_append] at hW3'
        have hb3 : Below w2.heap.size w2 W3 := by rw [hW3]; exact below_alloc (Below.refl _ _) _
        have HB3 := Aside0.mk (below_then HB2.out HB2.out.size hb3)
        have HR3 := Aside0.mk (show W3.heap[w2.heap.size]? = some (.cells (enC p (t, d)).toArray 81 (0, 0)) by rw [hW3]; exact blk_new _ _)
        obtain ⟨cells, q, hown, hkids⟩ := HK.out.later HB3.out
        rw [HNX.out] at hown
        have HOWN := Aside0.mk hown
        have HKID := Aside0.mk hkids
        have hlo3 := Nat.le_trans hlo HB3.out.size
        clear hW3 hb3 hown hkids
        go_wp2_with (first
          | (refine wpList_load_row rfl 28 _ rfl (w.heap.size) rfl 28 _ (0, 0) _ HX2.out Try.underlying28 rfl (by kernel_rfl) ?_)
          | (rw [← hW3']; refine print_append_at lo rfl (.tmp 17) (.tmp 21) 78 81 _ 9 128 rfl Try.underlying78 infoEn rfl (by decide) (by decide) (.slice A n c) n cells (enC p (t, d)) rfl rfl HR3.out rfl (List.all_eq_true.1 rfl) HOWN.out (by omega) hlo3 ?_; intro v1 w1 ho1 hg hat; have HG1 := Aside0.mk (Grew.of_append hg hat); have HE1 := Aside0.mk (KidsE.push (x := (t, d)) (fun b hb => Nat.lt_of_lt_of_le hb hBl) (by rw [HNX.out]; exact HOWN.out) HKID.out (TmIn.stay HIN.out (HB3.out.mono (Nat.le_trans hBl hlo))) (by rw [HNX.out]; exact ho1) hg); clear ho1 hg hat))
        go_ret
        rw [HEL.out]
        exact ⟨v1, rfl, HE1.out, Grew.trans (w1 := W3) ⟨Chg.of_below HB3.out, fun _ h => .inl h⟩ HG1.out⟩
    · have hlf : leafR t = false := by
        cases h : leafR t with
        | true => exact absurd (nK_leaf h) h0
        | false => rfl
      obtain ⟨hk1, hk2, hk3⟩ := nK_eq hlf
      rw [har] at hk1 hk2 hk3
      have HLF := Aside0.mk hlf
      have HEL := Aside0.mk (show endsP t d = endD t d (List.finRange (nK t)) from ends_node h0)
      have HSD := Aside0.mk (show sizeT t = 1 + sumD t (List.finRange (nK t)) by rw [sizeT]; rfl)
      obtain ⟨m, hm⟩ : ∃ x, nK t = x := ⟨_, rfl⟩
      rw [hm] at hk1 h0
      subst hk1
      have HNK := Aside0.mk hm
      have hne : ((m : Int) == 0) = false := by simp; omega
      have hm3 : m ≤ 3 := by rw [← hm]; exact nK_le3 t
      have hmL : m ≤ t.kids.length := by omega
      have hme : m ≤ p.e := by omega
      have hmeI : (m : Int) ≤ p.e := by omega
      clear hlf hm hk2 hk3 har
      unfold tmV
      unfold tmO at hW
      go_enter Try.func80, Try.ntmps80
      go_upto_region 1 with (fail)
      rw [← hW]
      clear hW
      go_upto_region 3 with (first
        | (refine wpList_load_row rfl 28 _ rfl (w.heap.size) rfl 28 _ (0, 0) _ HX.out Try.underlying28 rfl (by kernel_rfl) ?_)
        | (go_at_call 77; go_must (refine (refleaf_calls t p W (by omega)).mono ?_; rintro e w2 ⟨rfl, hb⟩; rw [HLF.out]; have HBW := Aside0.mk hb; have HB2 := Aside0.mk (below_then HB.out HB.out.size hb); have HX2 := Aside0.mk ((hb.block _ (blk_lt HX.out)).trans HX.out); have c0 := (row8 HX2.out).1; clear hb))
        | (go_at_call 39; go_must (refine (HAC.out _).mono ?_; rintro e w3 ⟨rfl, h3⟩; have h3 := h3.symm; subst h3)))
      have c7 := (row8 HX2.out).2.2.2.2.2.2.2
      go_quiet ((go_at_call 39; exact Calls.quiet_of_same (HAC.out _)))
      obtain ⟨qq, hq⟩ := HIN.out.kid
      have HQ := Aside0.mk hq
      have HX0 := HX
      clear hq c0 c7 HX
      go_wp2
      go_loopw [2, 30] (fun l i wr => ∃ (k : Nat) (ys : List (Tm × Int)), i = .int .i64 k ∧ k ≤ m ∧ ys.length + sumD t ((List.finRange (nK t)).drop k) ≤ 30000 ∧ Aside0 (ys ++ endD t d ((List.finRange (nK t)).drop k) = xs ++ endsP t d) ∧ Aside0 (KidsE wr (fun k => k < B) lo l ys) ∧ Aside0 (Grew (.slice A n c) l W wr) ∧ Aside0 (wr.heap[w.heap.size]? = some (tmO p t))) (fun _ i _ => m - (intOf i).toNat)
      case atStart =>
        have hbn : Below W.heap.size W (w2.drewN nq) := below_drewN HBW.out _
        exact ⟨0, xs, rfl, Nat.zero_le _, by rw [List.drop_zero]; have := HSZ.out; have := HSD.out; have := HNX.out; omega, ⟨by rw [List.drop_zero, HEL.out]⟩, ⟨HK.out.later (below_drewN HB2.out _)⟩, ⟨⟨Chg.of_below hbn, fun _ h => .inl h⟩⟩, ⟨(hbn.block _ (by have := blk_lt HX0.out; omega)).trans HX0.out⟩⟩
      case round =>
        clear HB2 HX2 HBW
        obtain ⟨k, ys, rfl, hk, hys, HEQ, HKR, HGR, HXR⟩ := hrel
        by_cases hlt : k < m
        · have hkn : k < nK t := by rw [HNK.out]; exact hlt
          have hx := kidF_get t ⟨k, hkn⟩
          have HDF := Aside0.mk (drop_fin hkn)
          have HDK := Aside0.mk (depth_kid t ⟨k, hkn⟩)
          obtain ⟨x, hxe⟩ : ∃ x, kidF t ⟨k, hkn⟩ = x := ⟨_, rfl⟩
          have HXL := Aside0.mk (show SizeOf.sizeOf x < SizeOf.sizeOf t by rw [← hxe]; exact kidF_lt t _)
          rw [hxe] at hx HDK
          obtain ⟨⟨bk, o, hpK, hSb, hcells⟩, hxin⟩ := HQ.out k x hx
          have hkeep : ∀ j, j < B → wr.heap[j]? = w.heap[j]? := fun j hj => (HGR.out.1.block j (by have := HB.out.size; omega) (fun e => by
            have e2 : (Value.slice A n c).ownBlock = some j := e
            have := (HK.out.base e2).1
            omega)).trans (HB.out.block j (by omega))
          have hbk : ∀ j v, (tmC (qq k) x)[j]? = some v → wr.cell? ⟨bk, o + k * 8 + j, none⟩ = some v := fun j v hv => (cell_same (hkeep bk hSb)).trans (hcells j v hv)
          have d0 := hbk 0 _ rfl
          have d1 := hbk 1 _ rfl
          have d2 := hbk 2 _ rfl
          have d3 := hbk 3 _ rfl
          have d4 := hbk 4 _ rfl
          have d5 := hbk 5 _ rfl
          have d6 := hbk 6 _ rfl
          have d7 := hbk 7 _ rfl
          rw [Nat.add_zero] at d0
          have HXIN := Aside0.mk (show TmIn wr B (qq k) x from TmS.same hxin fun j hj _ => hkeep j hj)
          have HPK := Aside0.mk hpK
          have HEX := Aside0.mk (show endD t d (⟨k, hkn⟩ :: (List.finRange (nK t)).drop (k + 1)) = endsP x (d + moreZ t k) ++ endD t d ((List.finRange (nK t)).drop (k + 1)) by unfold endD; rw [List.map_cons, List.flatten_cons, hxe])
          have HSX := Aside0.mk (show sumD t (⟨k, hkn⟩ :: (List.finRange (nK t)).drop (k + 1)) = sizeT x + sumD t ((List.finRange (nK t)).drop (k + 1)) by unfold sumD; rw [List.map_cons, List.sum_cons, hxe])
          rw [hpK]
          clear hcells hx hxin hbk hpK hxe hkeep
          go_upto_region 6 with (fail)
          obtain ⟨W5, hW5⟩ : ∃ W5, W5 = wr.alloc (tmO (qq k) x) := ⟨_, rfl⟩
          have hb5 : Below wr.heap.size wr W5 := by rw [hW5]; exact below_alloc (Below.refl _ _) _
          have hX5 : W5.heap[wr.heap.size]? = some (tmO (qq k) x) := by rw [hW5]; exact blk_new _ _
          have hT5 : W5.heap[w.heap.size]? = some (tmO p t) := (hb5.block _ (blk_lt HXR.out)).trans HXR.out
          have hzW := HB.out.size
          have hzT := blk_lt HXR.out
          have hVT : u2.ownBlock ≠ some w.heap.size := fun e => (HGR.out.2 _ e).elim (fun e2 => by have := (HK.out.base e2).2; omega) (fun h => by have := blk_lt HX0.out; omega)
          have hVB : u2.ownBlock ≠ some wr.heap.size := fun e => by have := (HKR.out.base e).2; omega
          have hm := moreZ_in t k
          have hz5 := hb5.size
          unfold tmO at hW5
          rw [← hW5]
          clear hW5
          refine en_region W5 wr.heap.size w.heap.size lo B (qq k) x p t k d u2 ys (ys ++ endsP x (d + moreZ t k)) hX5 hT5 (TmIn.stay HXIN.out (hb5.mono (by omega))) (HKR.out.later hb5) hBl (by omega) hVB hVT (by have := HD.out; omega)
            (fun w' hz hin hk => IH.out x (by have := HXL.out; have := HNN.out; omega) (qq k) B lo (d + moreZ t k) u2 ys w' hin hBl (by omega) (by omega) (by have := HDK.out; have := HD.out; omega) (by rw [HDF.out, HSX.out] at hys; omega) hk) ?_
          intro w6 V6 u43 O9 hC hF hO
          obtain ⟨hE, hG⟩ := en_grew hC hF hO
          have HE6 := Aside0.mk hE
          have HG6 := Aside0.mk (Grew.trans HGR.out (Grew.trans ⟨Chg.of_below hb5, fun _ h => .inl h⟩ hG))
          have HX6 := Aside0.mk ((hG.1.block _ (blk_lt hT5) hVT).trans hT5)
          have HEQ2 := Aside0.mk (show (ys ++ endsP x (d + moreZ t k)) ++ endD t d ((List.finRange (nK t)).drop (k + 1)) = xs ++ endsP t d by rw [List.append_assoc, ← HEX.out, ← HDF.out]; exact HEQ.out)
          have HLN := Aside0.mk (ends_len _ x (Nat.lt_succ_self _) (d + moreZ t k))
          clear hC hF hO hE hG hb5 hX5 hT5 hVT hVB hm
          go_wp2
          go_roundw
          case rel => exact ⟨k + 1, ys ++ endsP x (d + moreZ t k), by go_num, by omega, by rw [HDF.out, HSX.out] at hys; rw [List.length_append]; have := HLN.out; omega, HEQ2, HE6, HG6, HX6⟩
          case measure => (simp [intOf]; try omega)
        · obtain rfl : k = m := by omega
          have hlt' : decide ((k : Int) < k) = false := by simp
          have HZ := Aside0.mk (show ys = xs ++ endsP t d by
            have h := HEQ.out
            rw [List.drop_of_length_le (by rw [List.length_finRange, HNK.out]; exact Nat.le_refl _)] at h
            rw [← h]
            show ys = ys ++ []
            rw [List.append_nil])
          go_wp2
          go_ret
          exact ⟨u2, rfl, by rw [← HZ.out]; exact HKR.out, Grew.trans (w1 := W) ⟨Chg.of_below HB.out, fun _ h => .inl h⟩ HGR.out⟩
end Go.Proofs.Ytdboloabpjmgaaa

/-! Men -/
namespace Go.Proofs.Ytdboloabpjmgaaa
open Go.RowKit Go.Proofs.YtdboloabpjmgaaaW.PrintWords Go.RegionInvYtdboloabpjmgaaa

def StrAt (w : World) (g : Nat) (s : ByteArray) : Prop := w.heap[g]? = some (.cells #[.string s] 9 (0, 0))
theorem StrAt.cell {w : World} {g : Nat} {s : ByteArray} (h : StrAt w g s) : w.cell? ⟨g, 0, none⟩ = some (.string s) := by rw [cell_of_row _ _ _ _ _ _ h]; rfl
end Go.Proofs.Ytdboloabpjmgaaa

/-! EnU -/
namespace Go.Proofs.Ytdboloabpjmgaaa
open Go.RowKit Go.Proofs.YtdboloabpjmgaaaW.PrintWords Go.RegionInvYtdboloabpjmgaaa Go.RegionEYtdboloabpjmgaaa

def EnAt (w : World) (A : Option Addr) (xs : List (Tm × Int)) : Prop := ∀ (i : Nat) (x : Tm × Int), xs[i]? = some x → ∃ g o q, A = some ⟨g, o, none⟩ ∧ g < w.heap.size ∧ TmIn w w.heap.size q x.1 ∧ ∀ (j : Nat) (v : Value), (enC q x)[j]? = some v → w.cell? ⟨g, o + i * 9 + j, none⟩ = some v
theorem EnAt.later {w w' : World} {A : Option Addr} {xs : List (Tm × Int)} (h : EnAt w A xs) (hb : Below w.heap.size w w') : EnAt w' A xs := fun i x hx => by
  obtain ⟨g, o, q, hA, hg, hi, hc⟩ := h i x hx
  exact ⟨g, o, q, hA, Nat.lt_of_lt_of_le hg hb.size, (TmS.later hi hb).all, fun j v hv => (cell_same (hb.block g hg)).trans (hc j v hv)⟩
theorem KidsE.at {w : World} {S : Nat → Prop} {lo : Nat} {V : Value} {xs : List (Tm × Int)} (h : KidsE w S lo V xs) : ∃ A c, V = .slice A xs.length c ∧ xs.length ≤ c ∧ c ≤ 9223372036854775807 ∧ EnAt w A xs := by
  obtain ⟨cells, q, ho, hk⟩ := h
  obtain ⟨A, c, rfl⟩ := own_slice ho
  refine ⟨A, c, rfl, own_cap ho, own_max ho, fun i x hx => ?_⟩
  have hi : i < xs.length := by
    rcases Nat.lt_or_ge i xs.length with h | h
    · exact h
    · rw [List.getElem?_eq_none h] at hx; cases hx
  obtain ⟨g, cap, hv, hb, hlt⟩ := ho.form (by omega)
  have hv' := hv
  injection hv with hA
  refine ⟨g, 0, q i, hA, hlt, (hk i x hx).2.all, fun j v hjv => ?_⟩
  have := ho.cells (g := g) (by rw [hv']; rfl) _ _ ((hk i x hx).1 j v hjv)
  rwa [add_flat, ← Nat.add_assoc] at this
theorem ends_d (N : Nat) : ∀ (t : Tm), SizeOf.sizeOf t < N → ∀ (d : Int), ∀ y ∈ endsP t d, d ≤ y.2 ∧ y.2 + 1 ≤ d + depthT t := by
  induction N with
  | zero => intro t h; omega
  | succ N ih =>
    intro t hN d y hy
    have hp := depth_pos t
    by_cases h0 : nK t = 0
    · rw [ends_leaf h0] at hy
      obtain rfl : y = (t, d) := by simpa using hy
      exact ⟨Int.le_refl _, by show d + 1 ≤ _; omega⟩
    · rw [ends_node h0] at hy
      obtain ⟨l, hl, hy⟩ := List.mem_flatten.1 hy
      obtain ⟨i, -, rfl⟩ := List.mem_map.1 hl
      have := ih (kidF t i) (by have := kidF_lt t i; omega) _ y hy
      have := depth_kid t i
      have := moreZ_in t i
      omega
theorem ends0_calls (t : Tm) (p : Pl) (w : World) (hin : TmIn w w.heap.size p t) (hok : okT t) : Calls Try.prog 80 #[tmV p t, .int .i64 0, .slice none 0 0] w fun e w' =>
    ∃ A n c, e = .returned (.slice A n c) ∧ n = (endsP t 0).length ∧ n ≤ c ∧ c ≤ 9223372036854775807 ∧ EnAt w' A (endsP t 0) ∧ Below w.heap.size w w' := by
  have h1 := hok.1
  have h2 := hok.2
  refine (ends_calls _ t (Nat.lt_succ_self _) p w.heap.size w.heap.size 0 (.slice none 0 0) [] w hin (Nat.le_refl _) (Nat.le_refl _) (by decide) (by omega) (by show 0 + sizeT t ≤ 30000; omega) (KidsE.nil _ _ _)).mono ?_
  rintro e w' ⟨V, rfl, hE, hG⟩
  rw [List.nil_append] at hE
  obtain ⟨A, c, rfl, hc, hm, hat⟩ := hE.at
  exact ⟨A, _, c, rfl, rfl, hc, hm, hat, hG.1.below (fun k h => by cases h) (Nat.le_refl _)⟩
def ocE (n : Int) (xs : List (Tm × Int)) : Nat := (xs.map fun x => if hitB x.1 (n + x.2) = true then 1 else 0).sum
theorem ocE_cons (n : Int) (x : Tm × Int) (r : List (Tm × Int)) : ocE n (x :: r) = (if hitB x.1 (n + x.2) = true then 1 else 0) + ocE n r := by unfold ocE; rw [List.map_cons, List.sum_cons]
theorem ocE_app (n : Int) (xs ys : List (Tm × Int)) : ocE n (xs ++ ys) = ocE n xs + ocE n ys := by unfold ocE; rw [List.map_append, List.sum_append]
theorem ocE_ends (n : Int) (N : Nat) : ∀ (t : Tm), SizeOf.sizeOf t < N → ∀ (d : Int), ocE n (endsP t d) = occT t (n + d) := by
  induction N with
  | zero => intro t h; omega
  | succ N ih =>
    intro t hN d
    by_cases h0 : nK t = 0
    · rw [ends_leaf h0, occ_leaf h0]; rfl
    · rw [ends_node h0, occ_node (decide_eq_false h0)]
      have key : ∀ (xs : List (Fin (nK t))), ocE n ((xs.map fun i => endsP (kidF t i) (d + moreZ t i)).flatten) = occK t (n + d) xs := by
        intro xs
        induction xs with
        | nil => rfl
        | cons x r ihr =>
          have e2 : occK t (n + d) (x :: r) = occT (kidF t x) (n + d + moreZ t x) + occK t (n + d) r := by unfold occK; rw [List.map_cons, List.sum_cons]
          rw [List.map_cons, List.flatten_cons, ocE_app, ihr, ih (kidF t x) (by have := kidF_lt t x; omega) (d + moreZ t x), e2, Int.add_assoc]
      exact key _
theorem drop_at {α : Type} {xs : List α} {i : Nat} {x : α} (h : xs[i]? = some x) : xs.drop i = x :: xs.drop (i + 1) := by
  obtain ⟨hl, rfl⟩ := List.getElem?_eq_some_iff.1 h
  exact List.drop_eq_getElem_cons hl
abbrev enO (q : Pl) (x : Tm × Int) : Obj := .cells #[.int .i64 x.1.kind, .int .i64 x.1.num, .string x.1.name, .int .i64 x.1.lv.kind, .int .i64 x.1.lv.num, .slice q.A x.1.lv.kids.length q.c, .slice q.B x.1.ls.length q.d, .slice q.K x.1.kids.length q.e, .int .i64 x.2] 81 (0, 0)
theorem row9 {w : World} {g : Nat} {q : Pl} {x : Tm × Int} (h : w.heap[g]? = some (enO q x)) :
    w.cell? ⟨g, 0, none⟩ = some (.int .i64 x.1.kind) ∧ w.cell? ⟨g, 1, none⟩ = some (.int .i64 x.1.num) ∧ w.cell? ⟨g, 2, none⟩ = some (.string x.1.name) ∧ w.cell? ⟨g, 8, none⟩ = some (.int .i64 x.2) := by
  refine ⟨?_, ?_, ?_, ?_⟩ <;> (rw [cell_of_row _ _ _ _ _ _ h]; rfl)
set_option maxRecDepth 100000 in
set_option maxHeartbeats 4000000 in
theorem refOccurs_calls (t : Tm) (p : Pl) (nn : Int) (hnn : 0 ≤ nn ∧ nn ≤ 1000000) (w : World) (hin : TmIn w w.heap.size p t) (hk : okT t) : Calls Try.prog 52 #[tmV p t, .int .i64 nn] w fun e w' => e = .returned (.int .i64 (occT t nn)) ∧ Below w.heap.size w w' := by
  have HIN := Aside0.mk hin
  obtain ⟨W, hW⟩ : ∃ W, W = w.alloc (tmO p t) := ⟨_, rfl⟩
  have hb : Below w.heap.size w W := by rw [hW]; exact below_alloc (Below.refl _ _) _
  have HX := Aside0.mk (show W.heap[w.heap.size]? = some (tmO p t) by rw [hW]; exact blk_new _ _)
  have HB := Aside0.mk hb
  clear hin hb
  unfold tmV
  unfold tmO at hW
  go_enter Try.func52, Try.ntmps52
  go_upto_region 1 with (fail)
  rw [← hW]
  clear hW
  · have HK := Aside0.mk hk
    have HV := Aside0.mk (show ocE nn (endsP t 0) = occT t nn by rw [ocE_ends nn _ t (Nat.lt_succ_self _) 0, Int.add_zero])
    have HDP := Aside0.mk (show 0 + (depthT t : Int) ≤ 2000 by have := hk.2; omega)
    clear hk
    go_wp2_with (first
      | (refine wpList_load_row rfl 28 _ rfl (w.heap.size) rfl 28 _ (0, 0) _ HX.out Try.underlying28 rfl (by kernel_rfl) ?_)
      | (go_at_call 80; go_must (refine (ends0_calls t p W (TmS.all (HIN.out.stay HB.out)) HK.out).mono ?_; rintro e w2 ⟨A, n, c, rfl, hnl, hnc, hcm, hen, hb⟩; have HNL := Aside0.mk hnl; have HEN := Aside0.mk hen; have HB2 := Aside0.mk (below_then HB.out HB.out.size hb); clear hnl hen hb)))
    go_loopw [5, 11] (fun u i wr => ∃ (k : Nat) (m : Nat), i = .int .i64 k ∧ u = .int .i64 m ∧ k ≤ n ∧ (m ≤ k ∧ Aside0 (m + ocE nn ((endsP t 0).drop k) = ocE nn (endsP t 0))) ∧ Aside0 (Below w2.heap.size w2 wr)) (fun _ i _ => n - (intOf i).toNat)
    case atStart => exact ⟨0, 0, rfl, rfl, Nat.zero_le _, ⟨Nat.le_refl _, ⟨by rw [List.drop_zero]; exact Nat.zero_add _⟩⟩, ⟨Below.refl _ _⟩⟩
    case round =>
      obtain ⟨k, m, rfl, rfl, hk, hm, HBL⟩ := hrel
      by_cases hlt : k < n
      · obtain ⟨x, hx⟩ : ∃ x, (endsP t 0)[k]? = some x := ⟨_, List.getElem?_eq_getElem (by have := HNL.out; omega)⟩
        obtain ⟨g, o, q, hA, hg, hxin, hcells⟩ := (HEN.out.later HBL.out) k x hx
        have HDR := Aside0.mk (drop_at hx)
        have hxd := ends_d _ t (Nat.lt_succ_self _) 0 x (List.mem_of_getElem? hx)
        have hxf := hxin.fit.1
        have hdp := HDP.out
        have hx0 : 0 ≤ x.2 := hxd.1
        have hx1 : x.2 ≤ 2000 := by omega
        have e0 := hcells 0 _ rfl
        have e1 := hcells 1 _ rfl
        have e2 := hcells 2 _ rfl
        have e3 := hcells 3 _ rfl
        have e4 := hcells 4 _ rfl
        have e5 := hcells 5 _ rfl
        have e6 := hcells 6 _ rfl
        have e7 := hcells 7 _ rfl
        have e8 := hcells 8 _ rfl
        rw [Nat.add_zero] at e0
        subst hA
        clear hcells hxin hx hxd hdp hg
        go_upto_region 5 with (fail)
        obtain ⟨W5, hW5⟩ : ∃ W5, W5 = wr.alloc (enO q x) := ⟨_, rfl⟩
        have hb5 : Below wr.heap.size wr W5 := by rw [hW5]; exact below_alloc (Below.refl _ _) _
        have HX5 := Aside0.mk (show W5.heap[wr.heap.size]? = some (enO q x) by rw [hW5]; exact blk_new _ _)
        have HB5 := Aside0.mk (below_then HBL.out HBL.out.size hb5)
        unfold enO at hW5
        rw [← hW5]
        clear hW5 hb5 e0 e1 e2 e3 e4 e5 e6 e7 e8
        obtain ⟨r0, r1, r2, r8⟩ := row9 HX5.out
        have HMX := Aside0.mk (show m + (if hitB x.1 (nn + x.2) = true then 1 else 0) + ocE nn ((endsP t 0).drop (k + 1)) = ocE nn (endsP t 0) by rw [← hm.2.out, HDR.out, ocE_cons]; omega)
        obtain ⟨xn, hxn⟩ : ∃ y, x.1.num = y := ⟨_, rfl⟩
        obtain ⟨xd, hxd⟩ : ∃ y, x.2 = y := ⟨_, rfl⟩
        rw [hxn] at r1 hxf
        rw [hxd] at r8 hx0 hx1
        have hm1 := hm.1
        have hw : wrap64 (nn + xd) = nn + xd := by unfold wrap64; omega
        by_cases k1 : x.1.kind = 1
        · have b1 : (x.1.kind == 1) = true := by simp [k1]
          by_cases k2 : xn = nn + xd
          · have b2 : (xn == nn + xd) = true := by simp [k2]
            have HME := Aside0.mk (show hitB x.1 (nn + x.2) = true from decide_eq_true ⟨k1, by rw [hxn, hxd]; exact k2⟩)
            clear k1 k2 hm hxn hxd
            go_wp2
            go_roundw
            case rel => exact ⟨k + 1, m + 1, by go_num, by go_num, by omega, ⟨by omega, ⟨by have h := HMX.out; rw [HME.out] at h; exact h⟩⟩, HB5⟩
            case measure => (simp [intOf]; try omega)
          · have b2 : (xn == nn + xd) = false := by simp [k2]
            have HME := Aside0.mk (show hitB x.1 (nn + x.2) = false from decide_eq_false fun h => k2 (by rw [← hxn, ← hxd]; exact h.2))
            clear k1 k2 hm hxn hxd
            go_wp2
            go_roundw
            case rel => exact ⟨k + 1, m, by go_num, rfl, by omega, ⟨by omega, ⟨by have h := HMX.out; rw [HME.out] at h; exact h⟩⟩, HB5⟩
            case measure => (simp [intOf]; try omega)
        · have b1 : (x.1.kind == 1) = false := by simp [k1]
          have HME := Aside0.mk (show hitB x.1 (nn + x.2) = false from decide_eq_false fun h => k1 h.1)
          clear k1 hm hxn hxd
          go_wp2
          go_roundw
          case rel => exact ⟨k + 1, m, by go_num, rfl, by omega, ⟨by omega, ⟨by have h := HMX.out; rw [HME.out] at h; exact h⟩⟩, HB5⟩
          case measure => (simp [intOf]; try omega)
      · obtain rfl : k = n := by omega
        have hlt' : decide ((k : Int) < k) = false := by simp
        have HFIN := Aside0.mk (below_then HB2.out HB2.out.size HBL.out)
        have HZ := Aside0.mk (show occT t nn = m by
          have h := hm.2.out
          rw [List.drop_of_length_le (by have := HNL.out; omega), HV.out] at h
          rw [← h]
          rfl)
        go_wp2
        go_ret
        rw [HZ.out]
        exact ⟨rfl, HFIN.out⟩
end Go.Proofs.Ytdboloabpjmgaaa

/-! LawTK -/
namespace Go.Proofs.Ytdboloabpjmgaaa
open Go.RowKit Go.Proofs.YtdboloabpjmgaaaW.PrintWords Go.RegionInvYtdboloabpjmgaaa Go.RegionEYtdboloabpjmgaaa

theorem back_nums {a b : Tm} (ha : Whole a) (hb : Whole b) : (1 ≤ (sizeT a : Int) ∧ (sizeT a : Int) ≤ 400) ∧ (1 ≤ (sizeT b : Int) ∧ (sizeT b : Int) ≤ 400) ∧ 0 ≤ (occT a 0 : Int) * ((sizeT b : Int) - 1) ∧ (occT a 0 : Int) * ((sizeT b : Int) - 1) ≤ 160000 := by
  have h1 := ha.size
  have h2 := hb.size
  have h3 := size_pos a
  have h4 := size_pos b
  have h5 := occ_le _ a (Nat.lt_succ_self _) 0
  have h6 := Int.mul_le_mul (a := (occT a 0 : Int)) (b := (sizeT b : Int) - 1) (c := 400) (d := 400) (by omega) (by omega) (by omega) (by omega)
  have h7 := Int.mul_nonneg (a := (occT a 0 : Int)) (b := (sizeT b : Int) - 1) (by omega) (by omega)
  refine ⟨by omega, by omega, h7, by omega⟩
theorem meas_whole {a : Tm} (h : Whole a) : (measP a).1 = (sizeT a : Int) := by rw [meas_yes h.ok]
theorem meas_ok {a : Tm} (h : okT a) : (measP a).1 = (sizeT a : Int) := by rw [meas_yes h]
set_option maxRecDepth 100000 in
set_option maxHeartbeats 4000000 in
theorem termBack_calls (a b : Tm) (pa pb : Pl) (fr0 x0 y0 : Int) (w : World) (hina : TmIn w w.heap.size pa a) (hinb : TmIn w w.heap.size pb b) :
    Calls Try.prog 12 #[tmV pa a, tmV pb b, .int .i64 fr0, .int .i64 x0, .int .i64 y0] w fun e w' => e = .returned (.bool true) ∧ Below w.heap.size w w' := by
  obtain ⟨W, hW⟩ : ∃ W, W = (w.alloc (tmO pa a)).alloc (tmO pb b) := ⟨_, rfl⟩
  have hb : Below w.heap.size w W := by rw [hW]; exact below_alloc (below_alloc (Below.refl _ _) _) _
  have H0 := Aside0.mk (show TwoB w W pa pb a b from ⟨by rw [hW]; exact box0 w _ _, by rw [hW]; exact box1 w _ _, hb, hina.stay hb, hinb.stay hb⟩)
  obtain ⟨W1, hW1⟩ : ∃ W1, W1 = W.alloc (.cells (tmC pa a ++ tmC pb b).toArray 28 (0, 0)) := ⟨_, rfl⟩
  have hb1 : Below W.heap.size W W1 := by rw [hW1]; exact below_alloc (Below.refl _ _) _
  have H1 := Aside0.mk (H0.out.later hb1)
  have HR1 := Aside0.mk (show W1.heap[W.heap.size]? = some (.cells (tmC pa a ++ tmC pb b).toArray 28 (0, 0)) by rw [hW1]; exact blk_new _ _)
  have hW1' : W1 = _ := hW1
  simp only [tmC, List.cons_append, List.nil_append] at hW1'
  clear hina hinb hb hb1 hW1
  unfold tmV
  unfold tmO at hW
  go_enter Try.func12, Try.ntmps12
  go_upto_region 1 with (fail)
  rw [← hW]
  clear hW
  obtain ⟨wb, hwb⟩ : ∃ x, wholeB [a, b] = x := ⟨_, rfl⟩
  have HWB := Aside0.mk hwb
  cases wb with
  | false =>
    clear hwb
    go_upto_region 2 with (first
      | (refine wpList_load_row rfl 28 _ rfl (w.heap.size) rfl 28 _ (0, 0) _ H0.out.ba Try.underlying28 rfl (by kernel_rfl) ?_)
      | (refine wpList_load_row rfl 28 _ rfl (w.heap.size + 1) rfl 28 _ (0, 0) _ H0.out.bb Try.underlying28 rfl (by kernel_rfl) ?_)
      | (go_at_call 36; go_must (rw [← hW1']; clear hW1'; refine (whole_calls w.heap.size (some ⟨W.heap.size, 0, none⟩) 2 2 _ [a, b] W1 H1.out.bel.size rfl (by decide) (lam_row HR1.out H1.out.ia H1.out.ib)).mono ?_; rw [HWB.out]; rintro e w1 ⟨rfl, hb⟩; have HS1 := Aside0.mk (H1.out.later hb); clear hb)))
    go_wp2_with (go_at_call 25; go_must (refine (awake_calls w1).mono ?_; rintro e w2 ⟨rfl, hb⟩; have HS2 := Aside0.mk (HS1.out.later hb); clear hb))
    go_ret
    exact ⟨rfl, HS2.out.bel⟩
  | true =>
    have hall := List.all_eq_true.1 hwb
    have HWA := Aside0.mk (whole_of (of_decide_eq_true (hall a (by simp))))
    have HWV := Aside0.mk (whole_of (of_decide_eq_true (hall b (by simp))))
    clear hwb hall
    go_upto_region 3 with (first
      | (refine wpList_load_row rfl 28 _ rfl (w.heap.size) rfl 28 _ (0, 0) _ H0.out.ba Try.underlying28 rfl (by kernel_rfl) ?_)
      | (refine wpList_load_row rfl 28 _ rfl (w.heap.size + 1) rfl 28 _ (0, 0) _ H0.out.bb Try.underlying28 rfl (by kernel_rfl) ?_)
      | (go_at_call 36; go_must (rw [← hW1']; clear hW1'; refine (whole_calls w.heap.size (some ⟨W.heap.size, 0, none⟩) 2 2 _ [a, b] W1 H1.out.bel.size rfl (by decide) (lam_row HR1.out H1.out.ia H1.out.ib)).mono ?_; rw [HWB.out]; rintro e w1 ⟨rfl, hb⟩; have HS1 := Aside0.mk (H1.out.later hb); clear hb)))
    clear H0 H1 HR1
    go_upto_region 4 with (fail)
    have hm1 := mod_in fr0 100 (by decide) (by decide)
    have hm2 := mod_in x0 1000 (by decide) (by decide)
    have hm3 := mod_in y0 1000 (by decide) (by decide)
    obtain ⟨r, hr⟩ : ∃ r, wrap64 ((IntKind.u64.wrap fr0).tmod 100) = r := ⟨_, rfl⟩
    obtain ⟨x, hx⟩ : ∃ x, wrap64 ((IntKind.u64.wrap x0).tmod 1000) = x := ⟨_, rfl⟩
    obtain ⟨y, hy⟩ : ∃ y, wrap64 ((IntKind.u64.wrap y0).tmod 1000) = y := ⟨_, rfl⟩
    rw [hr] at hm1 ⊢
    rw [hx] at hm2 ⊢
    rw [hy] at hm3 ⊢
    clear hr hx hy
    refine tk4_region w1 w.heap.size w.heap.size pa a (w.heap.size + 1) pb b r x y HS1.out.bel.size HS1.out.ba HS1.out.ia HS1.out.bb HS1.out.ib (by omega) (back_inst HWA.out HWV.out) (lift_lift HWA.out (by omega) (by omega) (by omega)) (lift_zero HWA.out (by omega)) ?_
    intro w2 u32 u34 u42 u45 u51 u58 O3 O14 O20 O27 hch _ _ _ _ _ _ _ _
    have hb2 := hch.below (fun _ h => h.elim False.elim False.elim) (Nat.le_refl _)
    have HS2 := Aside0.mk (HS1.out.later hb2)
    obtain ⟨tx, htx⟩ : ∃ z, z = InstT a b := ⟨_, rfl⟩
    have HXE := Aside0.mk htx
    clear hch hb2 HS1 htx
    go_upto_region 7 with (first
      | (refine wpList_load_row rfl 28 _ rfl (w.heap.size) rfl 28 _ (0, 0) _ HS2.out.ba Try.underlying28 rfl (by kernel_rfl) ?_)
      | (refine wpList_load_row rfl 28 _ rfl (w.heap.size + 1) rfl 28 _ (0, 0) _ HS2.out.bb Try.underlying28 rfl (by kernel_rfl) ?_)
      | (go_at_call 17; go_must (refine (TmGot.as (Inst_calls w.heap.size a b pa pb w2 HS2.out.bel.size HS2.out.ia HS2.out.ib) HXE.out.symm).mono ?_; rintro e w3 ⟨q3, rfl, ht, hb⟩; have HT3 := Aside0.mk (TmS.all ht); have HS3 := Aside0.mk (HS2.out.later hb); clear ht hb; unfold tmV)))
    obtain ⟨W4, hW4⟩ : ∃ W4, W4 = w3.alloc (tmO q3 tx) := ⟨_, rfl⟩
    have hb4 : Below w3.heap.size w3 W4 := by rw [hW4]; exact below_alloc (Below.refl _ _) _
    have HX4 := Aside0.mk (show BoxT W4 w3.heap.size q3 tx from ⟨by rw [hW4]; exact blk_new _ _, TmS.all (TmS.later HT3.out hb4)⟩)
    have HS4 := Aside0.mk (HS3.out.later hb4)
    unfold tmO at hW4
    rw [← hW4]
    clear hW4 hb4 HT3 HS3 HS2
    obtain ⟨n, hn⟩ : ∃ z, occT a 0 = z := ⟨_, rfl⟩
    have HN := Aside0.mk hn
    have hnum := back_nums HWA.out HWV.out
    obtain ⟨sa, hsa⟩ : ∃ z, (sizeT a : Int) = z := ⟨_, rfl⟩
    obtain ⟨sb, hsb⟩ : ∃ z, (sizeT b : Int) = z := ⟨_, rfl⟩
    have HBK := Aside0.mk (show sa + n * (sb - 1) ≤ 20000 → (measP tx).1 = sa + n * (sb - 1) from fun h => by
      rw [← hsa, ← hsb, ← hn] at h ⊢
      have h2 := back_size HWA.out HWV.out h
      rw [HXE.out, meas_ok (by rw [h2.2.1]; exact h2.1), h2.2.2])
    have HMA := Aside0.mk ((meas_whole HWA.out).trans hsa)
    have HMB := Aside0.mk ((meas_whole HWV.out).trans hsb)
    rw [hn, hsa, hsb] at hnum
    clear hn hsa hsb
    go_upto_region 8 with (first
      | (refine wpList_load_row rfl 28 _ rfl (w.heap.size) rfl 28 _ (0, 0) _ HS4.out.ba Try.underlying28 rfl (by kernel_rfl) ?_)
      | (go_at_call 52; go_must (refine (refOccurs_calls a pa 0 (by decide) W4 (TmS.all HS4.out.ia) HWA.out.ok).mono ?_; rw [HN.out]; rintro e w5 ⟨rfl, hb⟩; have HS5 := Aside0.mk (HS4.out.later hb); have HX5 := Aside0.mk (HX4.out.later hb); clear hb)))
    clear HS4 HX4
    by_cases hbig : 20000 < sa + n * (sb - 1)
    · refine tk8b_region w5 w.heap.size w.heap.size pa a (w.heap.size + 1) pb b n sa sb true HS5.out.bel.size HS5.out.ba HS5.out.ia HS5.out.bb HS5.out.ib HMA.out HMB.out (by omega) (by omega) (by omega) (decide_eq_true hbig) ?_
      intro w6 hch
      have HS6 := Aside0.mk (HS5.out.later (hch.below (fun _ h => h.elim False.elim False.elim) (Nat.le_refl _)))
      clear hch hbig
      go_wp2_with (go_at_call 25; go_must (refine (awake_calls w6).mono ?_; rintro e w7 ⟨rfl, hb⟩; have HS7 := Aside0.mk (HS6.out.later hb); clear hb))
      go_ret
      exact ⟨rfl, HS7.out.bel⟩
    · refine tk8b_region w5 w.heap.size w.heap.size pa a (w.heap.size + 1) pb b n sa sb false HS5.out.bel.size HS5.out.ba HS5.out.ia HS5.out.bb HS5.out.ib HMA.out HMB.out (by omega) (by omega) (by omega) (decide_eq_false hbig) ?_
      intro w6 hch
      have hb6 := hch.below (fun _ h => h.elim False.elim False.elim) (Nat.le_refl _)
      have HS6 := Aside0.mk (HS5.out.later hb6)
      have HX6 := Aside0.mk (HX5.out.later hb6)
      have HMX := Aside0.mk (HBK.out (by omega))
      clear hch hb6 HS5 HX5 hbig
      obtain ⟨la, hla⟩ : ∃ z, LooseT a = z := ⟨_, rfl⟩
      have HLA := Aside0.mk hla
      clear hla
      go_upto_region 10 with (fail)
      have hBX : w.heap.size ≤ w6.heap.size := HS6.out.bel.size
      have ia6 : TmIn w6 w6.heap.size pa a := TmS.all HS6.out.ia
      have ib6 : TmIn w6 w6.heap.size pb b := TmS.all HS6.out.ib
      by_cases h1 : 1 < la
      · refine tk10l_region w6 w6.heap.size w.heap.size pa a (w.heap.size + 1) pb b w3.heap.size q3 tx n sa sb la (Nat.le_refl _) HS6.out.ba ia6 HS6.out.bb ib6 HX6.out.x HX6.out.i HMA.out HMB.out HMX.out HLA.out (by omega) (by omega) (by omega) h1 ?_
        intro w7 hch
        have HBN := Aside0.mk (below_then HS6.out.bel HS6.out.bel.size (hch.below (fun _ h => h.elim False.elim False.elim) (Nat.le_refl _)))
        clear hch ia6 ib6
        go_wp2
        go_ret
        exact ⟨rfl, HBN.out⟩
      · by_cases hn0 : 0 < (n : Int)
        · refine tk10p_region w6 w6.heap.size w.heap.size pa a (w.heap.size + 1) pb b w3.heap.size q3 tx n sa sb la (Nat.le_refl _) HS6.out.ba ia6 HS6.out.bb ib6 HX6.out.x HX6.out.i HMA.out HMB.out HMX.out HLA.out (by omega) (by omega) (by omega) h1 hn0 ?_
          intro w7 hch
          have HBN := Aside0.mk (below_then HS6.out.bel HS6.out.bel.size (hch.below (fun _ h => h.elim False.elim False.elim) (Nat.le_refl _)))
          clear hch ia6 ib6
          go_wp2
          go_ret
          exact ⟨rfl, HBN.out⟩
        · refine tk10z_region w6 w6.heap.size w.heap.size pa a (w.heap.size + 1) pb b w3.heap.size q3 tx n sa sb la (Nat.le_refl _) HS6.out.ba ia6 HS6.out.bb ib6 HX6.out.x HX6.out.i HMA.out HMB.out HMX.out HLA.out (by omega) (by omega) (by omega) h1 hn0 (by rw [HXE.out]; exact back_loose HWA.out HWV.out (by rw [HLA.out]; omega) (by rw [HN.out]; omega)) ?_
          intro w7 hch
          have HBN := Aside0.mk (below_then HS6.out.bel HS6.out.bel.size (hch.below (fun _ h => h.elim False.elim False.elim) (Nat.le_refl _)))
          clear hch ia6 ib6
          go_wp2
          go_ret
          exact ⟨rfl, HBN.out⟩
end Go.Proofs.Ytdboloabpjmgaaa

/-! LvIn -/
namespace Go.Proofs.Ytdboloabpjmgaaa
open Go.RowKit Go.Proofs.YtdboloabpjmgaaaW.PrintWords Go.RegionInvYtdboloabpjmgaaa Go.ChangeShapes Go.WideShapes Go.Deep

instance : Inhabited Lv := ⟨.mk 0 0 []⟩
set_option maxRecDepth 100000 in
theorem lv_open {H : Type} {enc : TypeId × Value → H} {W : World} {base : Nat} {sp : Nat → Bool} {held : Bool} (F : Nat) : ∀ (fuel : Nat), fuel ≤ F → ∀ (cs : List Value) (x : DataW H × List MemPlace),
    DataW.trod enc Try.prog W base sp held fuel 25 cs = some x → ∃ (l : Lv) (A : Option Addr) (c : Nat), cs = [.int .i64 l.kind, .int .i64 l.num, .slice A l.kids.length c] ∧ LvS W (fun _ => True) A c l ∧ (Lit.int .i64 l.kind).wf = true ∧ (Lit.int .i64 l.num).wf = true := by
  induction F with
  | zero =>
    intro fuel hF cs x h
    obtain ⟨xs, n, hn, _⟩ := DataW.trod_struct Try.underlying25 h
    omega
  | succ F ih =>
    intro fuel hF cs x h
    obtain ⟨xs, n, hn, hx, hl, hxl, hf⟩ := DataW.trod_struct Try.underlying25 h
    have hl3 : cs.length = 3 := by rw [hl]; kernel_rfl
    match xs, hxl, cs, hl3 with
    | [y0, y1, y2], _, [v0, v1, v2], _ =>
      have g0 : DataW.trod enc Try.prog W base sp held n 3 [v0] = some y0 := hf 0 _ rfl
      have g1 : DataW.trod enc Try.prog W base sp held n 3 [v1] = some y1 := hf 1 _ rfl
      have g2 : DataW.trod enc Try.prog W base sp held n 23 [v2] = some y2 := hf 2 _ rfl
      obtain ⟨k, e0, _, w0⟩ := DataW.trod_int Try.underlying3 g0
      obtain ⟨m, e1, _, w1⟩ := DataW.trod_int Try.underlying3 g1
      obtain rfl : v0 = .int .i64 k := by simpa using e0
      obtain rfl : v1 = .int .i64 m := by simpa using e1
      rcases DataW.trod_slice Try.underlying23 g2 with ⟨e2, _⟩ | ⟨a, len, cap, elems, rest, n', hn', e2, _, _, hle, hm, hlen, hel, _, _⟩
      · obtain rfl : v2 = .slice none 0 0 := by simpa using e2
        exact ⟨.mk k m [], none, 0, rfl, .mk (fun _ => none) (fun _ => 0) (by simp) (by omega) (fun i x hx => by simp at hx) (fun i x hx => by simp at hx), w0, w1⟩
      · obtain rfl : v2 = .slice (some a) len cap := by simpa using e2
        have hc3 : Try.prog.cellsOf 25 = 3 := by kernel_rfl
        rw [hc3] at hel
        have each : ∀ i, i < len → ∃ q : Lv × Option Addr × Nat, W.cells? base (a.add (i * 3)) 3 = some [.int .i64 q.1.kind, .int .i64 q.1.num, .slice q.2.1 q.1.kids.length q.2.2] ∧ LvS W (fun _ => True) q.2.1 q.2.2 q.1 := by
          intro i hi
          have hq := hel i hi
          rw [List.getElem?_eq_getElem (by omega)] at hq
          obtain ⟨cs', h1, h2⟩ := Option.bind_eq_some_iff.1 hq
          obtain ⟨l, A, c, rfl, h3, _⟩ := ih n' (by omega) cs' _ h2
          exact ⟨(l, A, c), h1, h3⟩
        obtain ⟨q, hq⟩ := choose_lt each
        have hcell : ∀ i, i < len → ∀ j, j < 3 → W.cell? ((a.add (i * 3)).add j) = ([.int .i64 (q i).1.kind, .int .i64 (q i).1.num, .slice (q i).2.1 (q i).1.kids.length (q i).2.2] : List Value)[j]? := fun i hi j hj => (World.cells?_some (hq i hi).1).2.2 j hj
        have hget : ∀ (i : Nat) (x : Lv), ((List.range len).map fun i => (q i).1)[i]? = some x → i < len ∧ x = (q i).1 := by
          intro i x hx
          have hi : i < len := by
            rcases Nat.lt_or_ge i len with h | h
            · exact h
            · rw [List.getElem?_eq_none (by simpa using h)] at hx; cases hx
          rw [List.getElem?_map, List.getElem?_range hi] at hx
          exact ⟨hi, (Option.some.inj hx).symm⟩
        refine ⟨.mk k m ((List.range len).map fun i => (q i).1), some a, cap, by simp [Lv.kind, Lv.num, Lv.kids], .mk (fun i => (q i).2.1) (fun i => (q i).2.2) (by simpa using hle) (by simp only [maxLen] at hm; omega) (fun i x hx => ?_) (fun i x hx => ?_), w0, w1⟩
        · obtain ⟨hi, rfl⟩ := hget i x hx
          have hsp : a.spot = none := by
            have h0 := hcell 0 (by omega) 0 (by omega)
            simp only [Nat.zero_mul, Addr.add, if_true] at h0
            cases hs : a.spot with
            | none => rfl
            | some z => simp [World.cell?, hs] at h0; split at h0 <;> simp at h0
          obtain ⟨b, o, z⟩ := a
          obtain rfl : z = none := hsp
          have c0 := hcell i hi 0 (by omega)
          have c1 := hcell i hi 1 (by omega)
          have c2 := hcell i hi 2 (by omega)
          simp only [add_flat] at c0 c1 c2
          exact ⟨_, rfl, trivial, rfl, by rw [add_flat]; exact c0, by rw [add_flat]; exact c1, by rw [add_flat]; exact c2⟩
        · obtain ⟨hi, rfl⟩ := hget i x hx
          exact (hq i hi).2
end Go.Proofs.Ytdboloabpjmgaaa

/-! LvsIn -/
namespace Go.Proofs.Ytdboloabpjmgaaa
open Go.RowKit Go.Proofs.YtdboloabpjmgaaaW.PrintWords Go.RegionInvYtdboloabpjmgaaa Go.ChangeShapes Go.WideShapes Go.Deep

set_option maxRecDepth 100000 in
theorem lvs_open {H : Type} {enc : TypeId × Value → H} {W : World} {base : Nat} {sp : Nat → Bool} {held : Bool} {fuel : Nat} {v2 : Value} {y2 : DataW H × List MemPlace} (g2 : DataW.trod enc Try.prog W base sp held fuel 23 [v2] = some y2) :
    ∃ (vs : List Lv) (A : Option Addr) (c : Nat), v2 = .slice A vs.length c ∧ LvS W (fun _ => True) A c (.mk 0 0 vs) := by
  rcases DataW.trod_slice Try.underlying23 g2 with ⟨e2, _⟩ | ⟨a, len, cap, elems, rest, n', hn', e2, _, _, hle, hm, hlen, hel, _, _⟩
  · obtain rfl : v2 = .slice none 0 0 := by simpa using e2
    exact ⟨[], none, 0, rfl, .mk (fun _ => none) (fun _ => 0) (by simp) (by omega) (fun i x hx => by simp at hx) (fun i x hx => by simp at hx)⟩
  · obtain rfl : v2 = .slice (some a) len cap := by simpa using e2
    have hc3 : Try.prog.cellsOf 25 = 3 := by kernel_rfl
    rw [hc3] at hel
    have each : ∀ i, i < len → ∃ q : Lv × Option Addr × Nat, W.cells? base (a.add (i * 3)) 3 = some [.int .i64 q.1.kind, .int .i64 q.1.num, .slice q.2.1 q.1.kids.length q.2.2] ∧ LvS W (fun _ => True) q.2.1 q.2.2 q.1 := by
      intro i hi
      have hq := hel i hi
      rw [List.getElem?_eq_getElem (by omega)] at hq
      obtain ⟨cs', h1, h2⟩ := Option.bind_eq_some_iff.1 hq
      obtain ⟨l, A, c, rfl, h3, _⟩ := lv_open n' n' (Nat.le_refl _) cs' _ h2
      exact ⟨(l, A, c), h1, h3⟩
    obtain ⟨q, hq⟩ := choose_lt each
    have hcell : ∀ i, i < len → ∀ j, j < 3 → W.cell? ((a.add (i * 3)).add j) = ([.int .i64 (q i).1.kind, .int .i64 (q i).1.num, .slice (q i).2.1 (q i).1.kids.length (q i).2.2] : List Value)[j]? := fun i hi j hj => (World.cells?_some (hq i hi).1).2.2 j hj
    have hget : ∀ (i : Nat) (x : Lv), ((List.range len).map fun i => (q i).1)[i]? = some x → i < len ∧ x = (q i).1 := by
      intro i x hx
      have hi : i < len := by
        rcases Nat.lt_or_ge i len with h | h
        · exact h
        · rw [List.getElem?_eq_none (by simpa using h)] at hx; cases hx
      rw [List.getElem?_map, List.getElem?_range hi] at hx
      exact ⟨hi, (Option.some.inj hx).symm⟩
    refine ⟨(List.range len).map fun i => (q i).1, some a, cap, by simp, .mk (fun i => (q i).2.1) (fun i => (q i).2.2) (by simpa using hle) (by simp only [maxLen] at hm; omega) (fun i x hx => ?_) (fun i x hx => ?_)⟩
    · obtain ⟨hi, rfl⟩ := hget i x hx
      have hsp : a.spot = none := by
        have h0 := hcell 0 (by omega) 0 (by omega)
        simp only [Nat.zero_mul, Addr.add, if_true] at h0
        cases hs : a.spot with
        | none => rfl
        | some z => simp [World.cell?, hs] at h0; split at h0 <;> simp at h0
      obtain ⟨b, o, z⟩ := a
      obtain rfl : z = none := hsp
      have c0 := hcell i hi 0 (by omega)
      have c1 := hcell i hi 1 (by omega)
      have c2 := hcell i hi 2 (by omega)
      simp only [add_flat] at c0 c1 c2
      exact ⟨_, rfl, trivial, rfl, by rw [add_flat]; exact c0, by rw [add_flat]; exact c1, by rw [add_flat]; exact c2⟩
    · obtain ⟨hi, rfl⟩ := hget i x hx
      exact (hq i hi).2
end Go.Proofs.Ytdboloabpjmgaaa

/-! TmInT -/
namespace Go.Proofs.Ytdboloabpjmgaaa
open Go.RowKit Go.Proofs.YtdboloabpjmgaaaW.PrintWords Go.RegionInvYtdboloabpjmgaaa Go.ChangeShapes Go.WideShapes Go.Deep

section
variable {H : Type} {enc : TypeId × Value → H} {W : World} {base : Nat} {sp : Nat → Bool} {held : Bool}
def Sized (t : TypeId) (d : DataW H) : Prop := (DataW.weights Try.prog t d).all (· ≤ reachBytes) = true
theorem all_at {t : TypeId} : ∀ {l : List (DataW H)}, (DataW.weightsAll Try.prog t l).all (· ≤ reachBytes) = true → ∀ (i : Nat) (d : DataW H), l[i]? = some d → Sized t d
  | [], _, i, d, h => by simp at h
  | x :: r, hw, i, d, h => by
    rw [DataW.weightsAll, List.all_append, Bool.and_eq_true] at hw
    cases i with
    | zero => simp at h; subst h; exact hw.1
    | succ j => exact all_at hw.2 j d (by simpa using h)
theorem each_at : ∀ {ts : List TypeId} {l : List (DataW H)}, (DataW.weightsEach Try.prog ts l).all (· ≤ reachBytes) = true → ∀ (i : Nat) (t : TypeId) (d : DataW H), ts[i]? = some t → l[i]? = some d → Sized t d
  | [], l, _, i, t, d, h, _ => by simp at h
  | _ :: _, [], _, i, t, d, _, h => by simp at h
  | s :: ts, x :: r, hw, i, t, d, ht, hd => by
    rw [DataW.weightsEach, List.all_append, Bool.and_eq_true] at hw
    cases i with
    | zero => simp at ht hd; subst ht; subst hd; exact hw.1
    | succ j => exact each_at hw.2 j t d (by simpa using ht) (by simpa using hd)
theorem sized_agg {t : TypeId} {fs : Array Field} {ps : List (DataW H)} (hu : Try.prog.underlying t = some (.struct fs)) (h : Sized t (.agg ps)) : ∀ (i : Nat) (f : Field) (d : DataW H), fs[i]? = some f → ps[i]? = some d → Sized f.type d := by
  unfold Sized at h
  rw [DataW.weights, hu] at h
  intro i f d hf hd
  exact each_at h i f.type d (by simp [hf]) hd
theorem sized_slices {t e : TypeId} {es rs : List (DataW H)} (hu : Try.prog.underlying t = some (.slice e)) (h : Sized t (.slice es rs)) : (es.length + rs.length) * Try.prog.bytesOf e ≤ 140737488351232 ∧ ∀ (i : Nat) (d : DataW H), es[i]? = some d → Sized e d := by
  unfold Sized at h
  rw [DataW.weights, hu] at h
  simp only [List.all_cons, List.all_append, Bool.and_eq_true, decide_eq_true_eq] at h
  exact ⟨h.1, fun i d hd => all_at h.2.1 i d hd⟩
theorem sized_str {t : TypeId} {s : List UInt8} (h : Sized (H := H) t (.lit (.string s))) : s.length ≤ 140737488351232 := by
  unfold Sized at h
  rw [DataW.weights] at h
  have h' : s.length ≤ reachBytes := by simpa using h
  exact h'
theorem lvs_len {fuel : Nat} {v : Value} {y : DataW H × List MemPlace} (g : DataW.trod enc Try.prog W base sp held fuel 23 [v] = some y) (hw : Sized 23 y.1) {A : Option Addr} {n c : Nat} (he : v = .slice A n c) : n * 40 ≤ 140737488355328 := by
  subst he
  rcases DataW.trod_slice Try.underlying23 g with ⟨e2, _⟩ | ⟨a, len, cap, elems, rest, n', hn', e2, hy, _, hle, hm, hlen, hel, _, _⟩
  · have : n = 0 := by simp at e2; exact e2.2.1
    omega
  · have : n = len := by simp at e2; exact e2.2.1
    subst this
    subst hy
    have h := (sized_slices Try.underlying23 hw).1
    rw [show Try.prog.bytesOf 25 = 40 by kernel_rfl] at h
    simp only [List.length_map] at h
    have := Nat.le_mul_of_pos_right elems.length (show 0 < 40 by decide)
    have h2 : n * 40 ≤ (elems.length + rest.length) * 40 := Nat.mul_le_mul_right _ (by omega)
    omega
theorem plain_addr {a : Addr} {v : Value} (h : W.cell? a = some v) : a.spot = none := by
  cases hs : a.spot with
  | none => rfl
  | some z => simp [World.cell?, hs] at h; split at h <;> simp at h
theorem int_range {n : Int} (h : (Lit.int .i64 n).wf = true) : -9223372036854775808 ≤ n ∧ n ≤ 9223372036854775807 := by simpa [Lit.wf, IntKind.min, IntKind.max, IntKind.signed, IntKind.bits] using h
set_option maxRecDepth 100000 in
set_option maxHeartbeats 4000000 in
theorem tm_open (F : Nat) : ∀ (fuel : Nat), fuel ≤ F → ∀ (cs : List Value) (x : DataW H × List MemPlace), DataW.trod enc Try.prog W base sp held fuel 28 cs = some x → Sized 28 x.1 →
    ∃ (t : Tm) (p : Pl), cs = tmC p t ∧ TmS W (fun _ => True) p t := by
  induction F with
  | zero =>
    intro fuel hF cs x h
    obtain ⟨xs, n, hn, _⟩ := DataW.trod_struct Try.underlying28 h
    omega
  | succ F ih =>
    intro fuel hF cs x h hw
    obtain ⟨xs, n, hn, hx, hl, hxl, hf⟩ := DataW.trod_struct Try.underlying28 h
    have hl8 : cs.length = 8 := by rw [hl]; kernel_rfl
    match xs, hxl, cs, hl8 with
    | [y0, y1, y2, y3, y4, y5], _, [v0, v1, v2, v3, v4, v5, v6, v7], _ =>
      subst hx
      have g0 : DataW.trod enc Try.prog W base sp held n 3 [v0] = some y0 := hf 0 _ rfl
      have g1 : DataW.trod enc Try.prog W base sp held n 3 [v1] = some y1 := hf 1 _ rfl
      have g2 : DataW.trod enc Try.prog W base sp held n 9 [v2] = some y2 := hf 2 _ rfl
      have g3 : DataW.trod enc Try.prog W base sp held n 25 [v3, v4, v5] = some y3 := hf 3 _ rfl
      have g4 : DataW.trod enc Try.prog W base sp held n 23 [v6] = some y4 := hf 4 _ rfl
      have g5 : DataW.trod enc Try.prog W base sp held n 26 [v7] = some y5 := hf 5 _ rfl
      have z2 : Sized 9 y2.1 := sized_agg Try.underlying28 hw 2 _ _ rfl rfl
      have z4 : Sized 23 y4.1 := sized_agg Try.underlying28 hw 4 _ _ rfl rfl
      have z5 : Sized 26 y5.1 := sized_agg Try.underlying28 hw 5 _ _ rfl rfl
      obtain ⟨k, e0, _, w0⟩ := DataW.trod_int Try.underlying3 g0
      obtain ⟨m, e1, _, w1⟩ := DataW.trod_int Try.underlying3 g1
      obtain ⟨s, e2, e2', _⟩ := DataW.trod_string Try.underlying9 g2
      obtain rfl : v0 = .int .i64 k := by simpa using e0
      obtain rfl : v1 = .int .i64 m := by simpa using e1
      obtain rfl : v2 = .string s := by simpa using e2
      have hs : s.size ≤ 140737488355328 := by
        rw [e2'] at z2
        have := sized_str z2
        simp at this
        have e : s.size = s.data.size := rfl
        omega
      obtain ⟨l, A, c, e3, hlv, _, _⟩ := lv_open n n (Nat.le_refl _) _ _ g3
      obtain ⟨ls, B, d, rfl, hls⟩ := lvs_open g4
      have hll := lvs_len g4 z4 rfl
      obtain ⟨rfl, rfl, rfl⟩ : v3 = .int .i64 l.kind ∧ v4 = .int .i64 l.num ∧ v5 = .slice A l.kids.length c := by simpa using e3
      have hfit : Fit m s ls := ⟨int_range w1, hs, hll⟩
      rcases DataW.trod_slice Try.underlying26 g5 with ⟨e5, _⟩ | ⟨a, len, cap, elems, rest, n', hn', e5, hy, _, hle, hm, hlen, hel, _, _⟩
      · obtain rfl : v7 = .slice none 0 0 := by simpa using e5
        exact ⟨.mk k m s l ls [], ⟨A, c, B, d, none, 0⟩, rfl, .mk (fun _ => default) hlv hls (by simp) (by simp) hfit (fun i x hx => by simp at hx) (fun i x hx => by simp at hx)⟩
      · obtain rfl : v7 = .slice (some a) len cap := by simpa using e5
        subst hy
        have hz := (sized_slices Try.underlying26 z5).2
        have hc8 : Try.prog.cellsOf 28 = 8 := by kernel_rfl
        rw [hc8] at hel
        have each : ∀ i, i < len → ∃ q : Tm × Pl, W.cells? base (a.add (i * 8)) 8 = some (tmC q.2 q.1) ∧ TmS W (fun _ => True) q.2 q.1 := by
          intro i hi
          have hq := hel i hi
          rw [List.getElem?_eq_getElem (by omega)] at hq
          obtain ⟨cs', h1, h2⟩ := Option.bind_eq_some_iff.1 hq
          obtain ⟨t, p, rfl, h3⟩ := ih n' (by omega) cs' _ h2 (hz i _ (by rw [List.getElem?_map, List.getElem?_eq_getElem (by omega)]; rfl))
          exact ⟨(t, p), h1, h3⟩
        obtain ⟨q, hq⟩ := choose_lt each
        have hcell : ∀ i, i < len → ∀ j, j < 8 → W.cell? ((a.add (i * 8)).add j) = (tmC (q i).2 (q i).1)[j]? := fun i hi j hj => (World.cells?_some (hq i hi).1).2.2 j hj
        have hget : ∀ (i : Nat) (x : Tm), ((List.range len).map fun i => (q i).1)[i]? = some x → i < len ∧ x = (q i).1 := by
          intro i x hx
          have hi : i < len := by
            rcases Nat.lt_or_ge i len with h | h
            · exact h
            · rw [List.getElem?_eq_none (by simpa using h)] at hx; cases hx
          rw [List.getElem?_map, List.getElem?_range hi] at hx
          exact ⟨hi, (Option.some.inj hx).symm⟩
        refine ⟨.mk k m s l ls ((List.range len).map fun i => (q i).1), ⟨A, c, B, d, some a, cap⟩, by simp [tmC, Tm.kind, Tm.num, Tm.name, Tm.lv, Tm.ls, Tm.kids], .mk (fun i => (q i).2) hlv hls (by simpa using hle) (by simp only [maxLen] at hm; exact hm) hfit (fun i x hx => ?_) (fun i x hx => ?_)⟩
        · obtain ⟨hi, rfl⟩ := hget i x hx
          have h0 := hcell 0 (by omega) 0 (by omega)
          simp only [Nat.zero_mul, Addr.add, if_true] at h0
          have hsp : a.spot = none := plain_addr (h0.trans (by rfl))
          obtain ⟨b, o, z⟩ := a
          obtain rfl : z = none := hsp
          refine ⟨b, o, rfl, trivial, fun j v hv => ?_⟩
          have hj : j < 8 := by
            rcases Nat.lt_or_ge j 8 with h | h
            · exact h
            · rw [List.getElem?_eq_none (by rw [tmC_len]; exact h)] at hv; cases hv
          have c0 := hcell i hi j hj
          simp only [add_flat] at c0
          rw [c0]
          exact hv
        · obtain ⟨hi, rfl⟩ := hget i x hx
          exact (hq i hi).2
set_option maxRecDepth 100000 in
theorem tm_in {v : Value} {d : DataW H} {ps : List MemPlace} {r : Reach} {b0 : Nat} (hv : Value.okWide Try.prog W r b0 28 v) (h : DataW.Trod enc Try.prog W base sp held 28 v d ps) (hw : Sized 28 d) :
    ∃ (t : Tm) (p : Pl), v = tmV p t ∧ TmS W (fun _ => True) p t := by
  obtain ⟨cs, rfl, hcs⟩ := okWide_struct Try.underlying28 hv
  obtain ⟨fuel, hf⟩ := h
  obtain ⟨t, p, he, ht⟩ := tm_open fuel fuel (Nat.le_refl _) _ _ hf hw
  refine ⟨t, p, ?_, ht⟩
  unfold tmV
  congr 1
  apply Array.toList_inj.1
  simpa [Value.cells, tmC] using he

end
end Go.Proofs.Ytdboloabpjmgaaa
