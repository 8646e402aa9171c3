/-
  What operations of a region with levels owe: Max, Equal, Sound, a level's box.
-/
import Derived.Test.YtjlhbaohippidaaEq
import Derived.Test.YtjlhbaohippidaaAwk
namespace Go.Proofs.Ytjlhbaohippidaa
open Go.RowKit Go.Proofs.YtjlhbaohippidaaW.PrintWords Go.RegionInvYtjlhbaohippidaa Go.RegionEYtjlhbaohippidaa

/-- A level as a value, its kids in blocks of T or of one's own. -/
def LvV (T : Nat → Prop) (l : Lv) (v : Value) (w : World) (O : Nat → Prop) : Prop := ∃ A c, v = lvV A c l ∧ LvS w (fun k => T k ∨ O k) A c l
/-- A level in its box. -/
def LvBox (p : Nat) (T : Nat → Prop) (l : Lv) (w : World) (O : Nat → Prop) : Prop := ∃ A c, w.heap[p]? = some (.cells #[.int .i64 l.kind, .int .i64 l.num, .slice A l.kids.length c] 24 (0, 0)) ∧ O p ∧ LvS w (fun k => T k ∨ (O k ∧ k ≠ p)) A c l
theorem stableE_lv {w0 : World} {E : Nat → Nat → Prop} {T : Nat → Prop} {l : Lv} (hT : ∀ k, T k → Fix w0 E k) : StableE w0 E (LvV T l) := by
  rintro v w w' O ⟨A, c, e, h⟩ hz hk
  exact ⟨A, c, e, h.same fun k hk' hz' => hk k hz' (hk'.imp (hT k) id)⟩
theorem stableE_lvbox {w0 : World} {E : Nat → Nat → Prop} {T : Nat → Prop} {l : Lv} {p : Nat} (hT : ∀ k, T k → Fix w0 E k) : StableE w0 E (fun _ w O => LvBox p T l w O) := by
  rintro v w w' O ⟨A, c, hb, hO, h⟩ hz hk
  exact ⟨A, c, (hk p (blk_lt hb) (.inr hO)).trans hb, hO, h.same fun k hk' hz' => hk k hz' (hk'.imp (hT k) And.left)⟩
theorem LvV.all {T : Nat → Prop} {l : Lv} {v : Value} {w : World} {O : Nat → Prop} (h : LvV T l v w O) : ∃ A c, v = lvV A c l ∧ LvIn w w.heap.size A c l := by
  obtain ⟨A, c, e, h⟩ := h
  exact ⟨A, c, e, h.all⟩
theorem LvV.old {T : Nat → Prop} {l : Lv} {w0 w : World} {E : Nat → Nat → Prop} {A : Option Addr} {c : Nat} (h : LvS w0 T A c l) (hT : ∀ k, T k → Fix w0 E k) (hw : ∀ k, Fix w0 E k → w.heap[k]? = w0.heap[k]?) : LvV T l (lvV A c l) w (fun _ => False) :=
  ⟨A, c, rfl, (h.same fun k hk _ => hw k (hT k hk)).mono fun _ h _ => .inl h⟩

section
variable {ops : Array Oper} {Q : Exit → Act → World → Prop} {R : Nat → Prop} {a : Act} {w : World} {o : Oper} {T : Nat → Prop}

theorem obE_lvMax {l1 l2 : Lv} {O1 O2 : Nat → Prop} {x y : Operand} {ts : Array TypeId} (ho : o.op = .call { callee := .value (.func 17), args := #[x, y], argTypes := ts }) (hw : Region.wanted o (yielded ops a.tmps) = true)
    (h1 : LvV T l1 (a.eval x) w O1) (h2 : LvV T l2 (a.eval y) w O2) (hR1 : ∀ k, O1 k → R k) (hR2 : ∀ k, O2 k → R k) : OwesE Try.prog ops Q R (LvV T (mxP l1 l2)) o a w := by
  obtain ⟨A1, c1, e1, h1⟩ := h1
  obtain ⟨A2, c2, e2, h2⟩ := h2
  refine obE_call #[lvV A1 c1 l1, lvV A2 c2 l2] Try.func17 rfl rfl ho (by simp only [List.map_cons, List.map_nil]; rw [e1, e2]) hw ((max_calls (fun k => T k ∨ R k) A1 A2 c1 c2 l1 l2 w (h1.mono fun k h _ => h.imp id (hR1 k)) (h2.mono fun k h _ => h.imp id (hR2 k))).mono ?_)
  rintro e w' ⟨A, c, rfl, hl, hB⟩
  exact ⟨_, fun k => k < w'.heap.size ∧ (R k ∨ w.heap.size ≤ k), rfl, ⟨A, c, rfl, hl.mono fun k h hz => h.elim (fun h => h.elim .inl fun h => .inr ⟨hz, .inl h⟩) fun h => .inr ⟨hz, .inr h⟩⟩, Chg.of_below hB, fun k h => h.2.elim .inl fun h' => .inr ⟨h', h.1⟩⟩
theorem obE_lvEqual {l1 l2 : Lv} {O1 O2 : Nat → Prop} {T1 T2 : Nat → Prop} {x y : Operand} {ts : Array TypeId} (ho : o.op = .call { callee := .value (.func 18), args := #[x, y], argTypes := ts }) (hw : Region.wanted o (yielded ops a.tmps) = true)
    (h1 : LvV T1 l1 (a.eval x) w O1) (h2 : LvV T2 l2 (a.eval y) w O2) {bb : Bool} (he : eqP l1 l2 = bb) : OwesE Try.prog ops Q R (fun v _ _ => v = .bool bb) o a w := by
  subst he
  obtain ⟨A1, c1, e1, h1⟩ := h1.all
  obtain ⟨A2, c2, e2, h2⟩ := h2.all
  refine obE_call #[lvV A1 c1 l1, lvV A2 c2 l2] Try.func18 rfl rfl ho (by simp only [List.map_cons, List.map_nil]; rw [e1, e2]) hw ((equal_calls A1 A2 c1 c2 l1 l2 w h1 h2).mono ?_)
  rintro e w' ⟨rfl, hB⟩
  exact ⟨_, fun _ => False, rfl, rfl, Chg.of_below hB, fun k h => h.elim⟩
theorem obE_awake {ts : Array TypeId} (ho : o.op = .call { callee := .value (.func 13), args := #[], argTypes := ts }) (hw : Region.wanted o (yielded ops a.tmps) = true) : OwesE Try.prog ops Q R (fun v _ _ => v = .bool true) o a w := by
  refine obE_call #[] Try.func13 rfl rfl ho rfl hw ((awake_calls w).mono ?_)
  rintro e w' ⟨rfl, hB⟩
  exact ⟨_, fun _ => False, rfl, rfl, Chg.of_below hB, fun k h => h.elim⟩
/-- A new box for a level. -/
theorem obE_lvBox (hw : Region.wanted o (yielded ops a.tmps) = true) (hr : (execOp a.eval o).run Try.prog w = .ok (.value (.pointer (some ⟨w.heap.size, 0, none⟩))) (w.alloc (.cells #[.int .i64 0, .int .i64 0, .slice none 0 0] 24 (0, 0)))) :
    OwesE Try.prog ops Q R (fun v w O => ∃ p, v = .pointer (some ⟨p, 0, none⟩) ∧ w.heap[p]? = some (.cells #[.int .i64 0, .int .i64 0, .slice none 0 0] 24 (0, 0)) ∧ O p) o a w :=
  obE_res (fun k => k = w.heap.size) hw hr (Chg.of_below ((Below.refl _ _).alloc (Nat.le_refl _) _)) ⟨_, rfl, blk_new _ _, rfl⟩ (fun k hk => .inr ⟨by omega, by simp; omega⟩)
theorem obE_lvStore {l : Lv} {O1 O2 : Nat → Prop} {x y : Operand} {t : TypeId} {τ : Value} (_ : o.op = .store t x y) (hw : Region.wanted o (yielded ops a.tmps) = true) (hτ : a.eval x = τ)
    (hr : ∀ (p : Nat) (A : Option Addr) (c : Nat), a.eval x = .pointer (some ⟨p, 0, none⟩) → a.eval y = lvV A c l → w.cell? ⟨p, 0, none⟩ = some (.int .i64 0) → w.cell? ⟨p, 1, none⟩ = some (.int .i64 0) → w.cell? ⟨p, 2, none⟩ = some (.slice none 0 0) → w.frozen? ⟨p, 0, none⟩ = false → w.frozen? ⟨p, 1, none⟩ = false → w.frozen? ⟨p, 2, none⟩ = false →
      (execOp a.eval o).run Try.prog w = .ok .skip (((w.setCell ⟨p, 0, none⟩ (.int .i64 l.kind)).setCell ⟨p, 1, none⟩ (.int .i64 l.num)).setCell ⟨p, 2, none⟩ (.slice A l.kids.length c)))
    (h1 : ∃ p, a.eval x = .pointer (some ⟨p, 0, none⟩) ∧ w.heap[p]? = some (.cells #[.int .i64 0, .int .i64 0, .slice none 0 0] 24 (0, 0)) ∧ O1 p) (h2 : LvV T l (a.eval y) w O2) (hR1 : ∀ k, O1 k → R k) (hR2 : ∀ k, O2 k → R k) (hap : ∀ k, O1 k → ¬ O2 k) (hT : ∀ k, T k → ¬ O1 k) :
    OwesE Try.prog ops Q R (fun _ w O => ∃ p, τ = .pointer (some ⟨p, 0, none⟩) ∧ LvBox p T l w O) o a w := by
  obtain ⟨p, e1, hx, hO⟩ := h1
  obtain ⟨A, c, e2, hl⟩ := h2
  obtain ⟨d0, d1, d2, f0, f1, f2⟩ := row3 hx
  have hch := chg_set3 w p (.int .i64 l.kind) (.int .i64 l.num) (.slice A l.kids.length c)
  refine obE_store (fun k => k = p ∨ O2 k) hw (hr p A c e1 e2 d0 d1 d2 f0 f1 f2) (hch.mono fun k h => hR1 k (by have h : k = p := h; rw [h]; exact hO)) ⟨p, hτ.symm.trans e1, A, c, set3 hx, .inl rfl, ?_⟩ (fun k h => .inl (h.elim (fun h => hR1 k (h ▸ hO)) (hR2 k)))
  exact (hl.same fun k hk hz => hch.block k hz (fun h => hk.elim (fun h' => hT k h' (by have h : k = p := h; rw [h]; exact hO)) fun h' => hap p hO (h ▸ h'))).mono fun k hk _ => hk.elim .inl fun h' => .inr ⟨.inr h', fun h => hap p hO (h ▸ h')⟩
end
end Go.Proofs.Ytjlhbaohippidaa
