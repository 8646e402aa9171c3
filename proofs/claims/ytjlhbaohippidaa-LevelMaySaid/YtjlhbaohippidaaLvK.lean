/-
  Rows of levels of the call's own.
-/
import Derived.Test.YtjlhbaohippidaaLvW
namespace Go.Proofs.Ytjlhbaohippidaa
open Go.RowKit Go.Proofs.YtjlhbaohippidaaW.PrintWords Go.RegionInvYtjlhbaohippidaa

/-- Kids that lie in a row of the call's own. -/
def KidsAt (w : World) (lo : Nat) (V : Value) (xs : List Lv) : Prop :=
  ∃ (cells : List Value) (fA : Nat → Option Addr) (fc : Nat → Nat), w.ownsRow lo 24 3 V xs.length cells ∧
    ∀ (i : Nat) (x : Lv), xs[i]? = some x → cells[i * 3]? = some (.int .i64 x.kind) ∧ cells[i * 3 + 1]? = some (.int .i64 x.num) ∧ cells[i * 3 + 2]? = some (.slice (fA i) x.kids.length (fc i)) ∧ LvS w (fun b => lo ≤ b ∧ V.ownBlock ≠ some b) (fA i) (fc i) x
theorem KidsAt.nil (w : World) (lo : Nat) : KidsAt w lo (.slice none 0 0) [] := ⟨[], fun _ => none, fun _ => 0, own_nil _ _ _ _, fun i x h => by simp at h⟩
theorem KidsAt.later {w w' : World} {lo : Nat} {V : Value} {xs : List Lv} (h : KidsAt w lo V xs) (hb : Below w.heap.size w w') : KidsAt w' lo V xs := by
  obtain ⟨cells, fA, fc, ho, hk⟩ := h
  exact ⟨cells, fA, fc, pw_own_below ho hb, fun i x hx => ⟨(hk i x hx).1, (hk i x hx).2.1, (hk i x hx).2.2.1, (hk i x hx).2.2.2.later hb⟩⟩
theorem own_len {w : World} {base n : Nat} {e : TypeId} {size : Nat} {v : Value} {xs : List Value} (h : w.ownsRow base e size v n xs) : xs.length = n * size := h.1
/-- A block that is none of them is written. -/
theorem KidsAt.other {w w' : World} {lo g : Nat} {V : Value} {xs : List Lv} (h : KidsAt w lo V xs) (hc : Chg (fun k => k = g) w w') (hg : g < lo) : KidsAt w' lo V xs := by
  obtain ⟨cells, fA, fc, ho, hk⟩ := h
  refine ⟨cells, fA, fc, ownsRow_same ho fun k hk => hc.block k (own_lt ho k hk) (by have := own_base ho k hk; omega), fun i x hx => ?_⟩
  obtain ⟨h1, h2, h3, h4⟩ := hk i x hx
  exact ⟨h1, h2, h3, h4.same fun k hs hz => hc.block k hz (by omega)⟩
theorem KidsAt.push {w w1 : World} {lo : Nat} {V v1 : Value} {xs : List Lv} {x : Lv} {A : Option Addr} {c : Nat} {cells : List Value} {fA : Nat → Option Addr} {fc : Nat → Nat} (ho : w.ownsRow lo 24 3 V xs.length cells)
    (hk : ∀ (i : Nat) (x : Lv), xs[i]? = some x → cells[i * 3]? = some (.int .i64 x.kind) ∧ cells[i * 3 + 1]? = some (.int .i64 x.num) ∧ cells[i * 3 + 2]? = some (.slice (fA i) x.kids.length (fc i)) ∧ LvS w (fun b => lo ≤ b ∧ V.ownBlock ≠ some b) (fA i) (fc i) x)
    (hx : LvS w (fun b => lo ≤ b ∧ V.ownBlock ≠ some b) A c x) (ho1 : w1.ownsRow lo 24 3 v1 (xs.length + 1) (cells ++ [.int .i64 x.kind, .int .i64 x.num, .slice A x.kids.length c]))
    (hg : w.grownBy w1 V.ownBlock) (hat : v1.ownBlock = V.ownBlock ∨ ∃ b, v1.ownBlock = some b ∧ w.heap.size ≤ b) : KidsAt w1 lo v1 (xs ++ [x]) := by
  have keep : ∀ {A : Option Addr} {c : Nat} {y : Lv}, LvS w (fun b => lo ≤ b ∧ V.ownBlock ≠ some b) A c y → LvS w1 (fun b => lo ≤ b ∧ v1.ownBlock ≠ some b) A c y := by
    intro A c y h
    have h1 : LvS w (fun b => (lo ≤ b ∧ V.ownBlock ≠ some b) ∧ v1.ownBlock ≠ some b) A c y := h.mono fun k hk hz => ⟨hk, by
      rcases hat with e | ⟨b, e, hb⟩
      · rw [e]; exact hk.2
      · rw [e]; intro h; injection h with h; omega⟩
    exact (h1.same fun k hs hz => hg.block k hz fun e => hs.1.2 e.symm).mono fun k hs _ => ⟨hs.1.1, hs.2⟩
  have hl := own_len ho
  refine ⟨_, fun i => if i = xs.length then A else fA i, fun i => if i = xs.length then c else fc i, by simpa using ho1, fun i y hy => ?_⟩
  rcases Nat.lt_or_ge i xs.length with hi | hi
  · rw [List.getElem?_append_left hi] at hy
    obtain ⟨h1, h2, h3, h4⟩ := hk i y hy
    rw [List.getElem?_append_left (by omega), List.getElem?_append_left (by omega), List.getElem?_append_left (by omega)]
    simp only [if_neg (show ¬ i = xs.length by omega)]
    exact ⟨h1, h2, h3, keep h4⟩
  · rw [List.getElem?_append_right hi] at hy
    have hi2 : i = xs.length := by
      cases e : i - xs.length with
      | zero => omega
      | succ j => rw [e] at hy; simp at hy
    subst hi2
    obtain rfl : x = y := by simpa using hy
    rw [List.getElem?_append_right (by omega), List.getElem?_append_right (by omega), List.getElem?_append_right (by omega)]
    simp only [↓reduceIte]
    rw [show xs.length * 3 - cells.length = 0 by omega, show xs.length * 3 + 1 - cells.length = 1 by omega, show xs.length * 3 + 2 - cells.length = 2 by omega]
    exact ⟨rfl, rfl, rfl, keep hx⟩
theorem KidsAt.level {w : World} {lo : Nat} {V : Value} {xs : List Lv} (h : KidsAt w lo V xs) : ∃ A c, V = .slice A xs.length c ∧ ∀ k n, LvS w (fun b => lo ≤ b) A c (.mk k n xs) := by
  obtain ⟨cells, fA, fc, ho, hk⟩ := h
  obtain ⟨A, c, rfl⟩ := own_slice ho
  refine ⟨A, c, rfl, fun k n => .mk fA fc (own_cap ho) ?_ (fun i x hx => ?_) (fun i x hx => (hk i x hx).2.2.2.mono fun b hb _ => hb.1)⟩
  · rcases ho.2 with ⟨h1, _⟩ | ⟨g, cap, cur, h1, _, _, h2, h3, _⟩
    · injection h1 with _ _ h1; omega
    · injection h1 with _ _ h1
      subst h1
      simp only [maxLen] at h3
      omega
  · have hi : i < xs.length := by
      rcases Nat.lt_or_ge i xs.length with h | h
      · exact h
      · rw [List.getElem?_eq_none h] at hx; cases hx
    obtain ⟨g, cap, hv, hb, _⟩ := ho.form (by omega)
    obtain ⟨h1, h2, h3, _⟩ := hk i x hx
    have hv' := hv
    injection hv with hA
    exact ⟨⟨g, 0, none⟩, hA, hb, rfl, ho.cells (g := g) (by rw [hv']; rfl) _ _ h1, ho.cells (g := g) (by rw [hv']; rfl) _ _ h2, ho.cells (g := g) (by rw [hv']; rfl) _ _ h3⟩

/-! ### What is copied -/
mutual
def cpP : Lv → Lv | .mk k n ks => .mk k (if k = 4 then 0 else n) (cpKs ks)
def cpKs : List Lv → List Lv | [] => [] | x :: r => cpP x :: cpKs r
end
theorem cpKs_map (ks : List Lv) : cpKs ks = ks.map cpP := by
  induction ks with
  | nil => rfl
  | cons x r ih => rw [cpKs, ih]; rfl
/-- Every node is right. -/
inductive Good : Lv → Prop
  | mk {k n : Int} {ks : List Lv} (h : rightP (.mk k n ks) 1099511627776 1000 = true) (hk : ∀ x ∈ ks, Good x) : Good (.mk k n ks)
mutual
theorem good_of_walk : (l : Lv) → (d s : Int) → 0 ≤ s → (walkP sndF l d s).1 = 0 → Good l
  | .mk k n ks, d, s, h0, h => by
    by_cases h1 : (sndF (.mk k n ks) d s).1 = 0
    · have h2 := sndF_small' h0 h1
      rw [walkP_go h1, h2.2.2.2] at h
      exact .mk h2.2.2.1 (goods_of_walk ks (d + 1) (s + 1) (by omega) h2.1 h)
    · rw [walkP_stop h1] at h; exact absurd h h1
theorem goods_of_walk : (ks : List Lv) → (d s : Int) → 0 ≤ s → s ≤ 1000 → (walkKs sndF ks d s).1 = 0 → ∀ x ∈ ks, Good x
  | [], _, _, _, _, _ => fun x hx => by cases hx
  | y :: r, d, s, h0, h1, h => by
    by_cases h2 : (walkP sndF y d s).1 = 0
    · rw [walkKs_go h2] at h
      have h3 := walkP_small sndF_small y d s h0 h2
      have h4 := good_of_walk y d s h0 h2
      have h5 := goods_of_walk r d _ h3.1 h3.2 h
      intro x hx
      rcases List.mem_cons.1 hx with rfl | hx
      · exact h4
      · exact h5 x hx
    · rw [walkKs_stop h2] at h; exact absurd h h2
end
theorem good_of_sound {l : Lv} (h : soundB l = true) : Good l := good_of_walk l 1 0 (by decide) (by simpa [soundB] using h)
theorem arity_le (k : Int) : arityP k ≤ 2 := by
  unfold arityP
  split
  · omega
  · split
    · omega
    · split <;> omega
theorem right_two {l : Lv} (h : rightP l 1099511627776 1000 = true) : l.kids.length ≤ 2 := by
  unfold rightP at h
  split at h
  · cases h
  · rename_i h1
    have : (l.kids.length : Int) = arityP l.kind := by simpa using h1
    have := arity_le l.kind
    omega
theorem Good.two {k n : Int} {ks : List Lv} (h : Good (.mk k n ks)) : ks.length ≤ 2 := by
  cases h with
  | mk h _ => exact right_two h
theorem Good.kid {k n : Int} {ks : List Lv} (h : Good (.mk k n ks)) {i : Nat} {x : Lv} (hx : ks[i]? = some x) : Good x := by
  cases h with
  | mk _ hk => exact hk x (List.mem_of_getElem? hx)
end Go.Proofs.Ytjlhbaohippidaa
