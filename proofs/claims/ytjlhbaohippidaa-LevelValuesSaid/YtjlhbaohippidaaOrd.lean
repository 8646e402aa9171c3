/-
  The order of sums, plainly.
-/
import Derived.Test.YtjlhbaohippidaaLq
import Derived.Test.YtjlhbaohippidaaSz
namespace Go.Proofs.Ytjlhbaohippidaa
open Go.RowKit Go.Proofs.YtjlhbaohippidaaW.PrintWords

theorem atP_ge {f : Nf} (hf : NfOk f) (j : Nat) : -1 ≤ atP f.2 j := (atP_ok hf.2.2.1 j).1
theorem atP_beyond {ks : List Int} {j : Nat} (h : ks.length ≤ j) : atP ks j = -1 := atP_out (by omega)
theorem atP_lt {ks : List Int} {j : Nat} (h : j < ks.length) : atP ks j = rd ks j := atP_in (by omega)
theorem atP_get {ks : List Int} {j : Nat} (h : j < ks.length) : atP ks j = ks[j] := by
  rw [atP_lt h, rd_nat', List.getD_eq_getElem?_getD, List.getElem?_eq_getElem h]; rfl
/-! ### the greatest of all -/
theorem fold_ge (ks : List Int) (c : Int) : c ≤ ks.foldl max c ∧ ∀ x ∈ ks, x ≤ ks.foldl max c := by
  induction ks generalizing c with
  | nil => exact ⟨Int.le_refl _, fun x hx => by cases hx⟩
  | cons y r ih =>
    have := ih (max c y)
    simp only [List.foldl_cons]
    refine ⟨by omega, fun x hx => ?_⟩
    rcases List.mem_cons.1 hx with rfl | hx
    · omega
    · exact this.2 x hx
theorem fold_le {ks : List Int} {c b : Int} (hc : c ≤ b) (h : ∀ x ∈ ks, x ≤ b) : ks.foldl max c ≤ b := by
  induction ks generalizing c with
  | nil => exact hc
  | cons y r ih =>
    simp only [List.foldl_cons]
    have := h y (by simp)
    exact ih (by omega) fun x hx => h x (by simp [hx])
theorem least_ge (f : Nf) : f.1 ≤ leastN f := (fold_ge f.2 f.1).1
theorem least_at {f : Nf} (j : Nat) (h0 : -1 ≤ leastN f) : atP f.2 j ≤ leastN f := by
  by_cases h : j < f.2.length
  · rw [atP_get h]; exact (fold_ge f.2 f.1).2 _ (List.getElem_mem _)
  · rw [atP_beyond (by omega)]; exact h0
theorem least_le {f : Nf} {b : Int} (hc : f.1 ≤ b) (h : ∀ j : Nat, atP f.2 j ≤ b) : leastN f ≤ b :=
  fold_le hc fun x hx => by
    obtain ⟨j, hj, rfl⟩ := List.getElem_of_mem hx
    have := h j
    rwa [atP_get hj] at this
theorem maxL_ge {ks : List Int} : ∀ x ∈ ks, x ≤ maxL ks := by
  cases ks with
  | nil => intro x hx; cases hx
  | cons y r =>
    intro x hx
    rcases List.mem_cons.1 hx with rfl | hx
    · exact (fold_ge r _).1
    · exact (fold_ge r _).2 x hx
theorem maxL_mem {ks : List Int} (h : ks ≠ []) : maxL ks ∈ ks := by
  cases ks with
  | nil => exact absurd rfl h
  | cons y r =>
    have key : ∀ (r : List Int) (c : Int), r.foldl max c = c ∨ r.foldl max c ∈ r := by
      intro r
      induction r with
      | nil => intro c; exact .inl rfl
      | cons z r ih =>
        intro c
        simp only [List.foldl_cons]
        rcases ih (max c z) with h | h
        · by_cases hz : z ≤ c
          · left; rw [h]; omega
          · right; rw [h]; rw [show max c z = z by omega]; simp
        · right; exact List.mem_cons_of_mem _ h
    rcases key r y with h | h
    · show r.foldl max y ∈ _; rw [h]; simp
    · exact List.mem_cons_of_mem _ h
/-! ### trimming -/
theorem trim_le (ks : List Int) (j : Nat) : trimTo ks j ≤ j := by
  induction j with
  | zero => rw [trimTo]; omega
  | succ j ih => rw [trimTo]; split <;> omega
theorem trim_neg (ks : List Int) : ∀ (j i : Nat), trimTo ks j ≤ i → i < j → rd ks i < 0 := by
  intro j
  induction j with
  | zero => intro i _ h; omega
  | succ j ih =>
    intro i h1 h2
    rw [trimTo] at h1
    split at h1
    · rename_i hn
      by_cases e : i = j
      · subst e; exact hn
      · exact ih i h1 (by omega)
    · omega
theorem trim_last (ks : List Int) (j : Nat) (h : 0 < trimTo ks j) : 0 ≤ rd ks ((trimTo ks j - 1 : Nat) : Int) := by
  induction j with
  | zero => rw [trimTo] at h; omega
  | succ j ih =>
    rw [trimTo] at h ⊢
    split at h
    · rename_i hn
      rw [if_pos hn]
      exact ih h
    · rename_i hn
      rw [if_neg hn]
      have : rd ks ((j + 1 - 1 : Nat) : Int) = rd ks (j : Nat) := rfl
      rw [this]
      omega
theorem atP_short {f : Nf} (hf : NfOk f) (j : Nat) : atP (shortN f).2 j = atP f.2 j := by
  have hle := trim_le f.2 f.2.length
  have hl : (shortN f).2.length = trimTo f.2 f.2.length := by simp [shortN]; omega
  by_cases h1 : j < trimTo f.2 f.2.length
  · rw [atP_get (by rw [hl]; exact h1), atP_get (show j < f.2.length by omega)]
    simp [shortN]
  · rw [atP_beyond (by rw [hl]; omega)]
    by_cases h2 : j < f.2.length
    · have h3 := trim_neg f.2 f.2.length j (by omega) h2
      have h4 := atP_ge hf j
      rw [atP_lt h2] at h4 ⊢
      omega
    · rw [atP_beyond (by omega)]
/-- The greatest number that stands with a variable; -1: none. -/
theorem short_fst (f : Nf) : (shortN f).1 = if f.2 ≠ [] ∧ f.1 ≤ maxL f.2 then 0 else f.1 := rfl
theorem least_short {f : Nf} (hf : NfOk f) : leastN (shortN f) = leastN f := by
  have h0 := hf.1
  have hge := least_ge f
  apply Int.le_antisymm
  · refine least_le ?_ fun j => by rw [atP_short hf]; exact least_at j (by omega)
    rw [short_fst]; split <;> omega
  · have hs0 : 0 ≤ (shortN f).1 := by rw [short_fst]; split <;> omega
    have hsg := least_ge (shortN f)
    refine least_le ?_ fun j => by rw [← atP_short hf]; exact least_at j (by omega)
    by_cases hz : f.2 ≠ [] ∧ f.1 ≤ maxL f.2
    · obtain ⟨j, hj, hjm⟩ := List.getElem_of_mem (maxL_mem hz.1)
      have h1 := least_at (f := shortN f) j (by omega)
      rw [atP_short hf, atP_get hj, hjm] at h1
      omega
    · rw [short_fst, if_neg hz] at hsg; exact hsg
/-- At most, of sums. -/
def leqR (f h : Nf) : Prop := (∀ j : Nat, atP f.2 j ≤ atP h.2 j) ∧ f.1 ≤ leastN h
theorem leqN_iff {f h : Nf} (hf : NfOk f) (hh : NfOk h) : leqN (shortN f) (shortN h) = true ↔ leqR f h := by
  have hlh := least_ge h
  have hh0 := hh.1
  unfold leqN leqK leqR
  rw [Bool.and_eq_true, List.all_eq_true, decide_eq_true_iff, least_short hh]
  constructor
  · rintro ⟨h1, h2⟩
    have ha : ∀ j : Nat, atP f.2 j ≤ atP h.2 j := by
      intro j
      rw [← atP_short hf, ← atP_short hh]
      by_cases hj : j < (shortN f).2.length
      · have := h1 j (List.mem_range.2 hj)
        rw [atP_lt hj]
        exact of_decide_eq_true this
      · rw [atP_beyond (by omega), atP_short hh]; exact atP_ge hh j
    refine ⟨ha, ?_⟩
    by_cases hz : f.2 ≠ [] ∧ f.1 ≤ maxL f.2
    · obtain ⟨j, hj, hjm⟩ := List.getElem_of_mem (maxL_mem hz.1)
      have h3 := ha j
      rw [atP_get hj, hjm] at h3
      have h4 := least_at (f := h) j (by omega)
      omega
    · rw [short_fst, if_neg hz] at h2; exact h2
  · rintro ⟨ha, h2⟩
    refine ⟨fun j hj => decide_eq_true ?_, ?_⟩
    · have hj := List.mem_range.1 hj
      rw [← atP_lt hj, atP_short hf, atP_short hh]; exact ha j
    · rw [short_fst]; split <;> omega
/-- The same, of sums. -/
def eqR (f h : Nf) : Prop := (∀ j : Nat, atP f.2 j = atP h.2 j) ∧ leastN f = leastN h
theorem short_len {f h : Nf} (hf : NfOk f) (hh : NfOk h) (ha : ∀ j : Nat, atP f.2 j = atP h.2 j) : (shortN f).2.length = (shortN h).2.length := by
  have key : ∀ {f h : Nf}, NfOk f → NfOk h → (∀ j : Nat, atP f.2 j = atP h.2 j) → ¬ (shortN h).2.length < (shortN f).2.length := by
    intro f h hf hh ha hlt
    have hle := trim_le f.2 f.2.length
    have hl : (shortN f).2.length = trimTo f.2 f.2.length := by simp [shortN]; omega
    have h1 := trim_last f.2 f.2.length (by omega)
    have h2 : atP (shortN h).2 ((trimTo f.2 f.2.length - 1 : Nat) : Int) = -1 := atP_beyond (by omega)
    rw [atP_short hh, ← ha, atP_lt (by omega)] at h2
    omega
  have h1 := key hf hh ha
  have h2 := key hh hf fun j => (ha j).symm
  omega
theorem short_max {f : Nf} (hf : NfOk f) : (shortN f).1 = if f.2 ≠ [] ∧ f.1 ≤ maxL f.2 then 0 else leastN f := by
  rw [short_fst]
  split
  · rfl
  · rename_i hz
    have h0 := hf.1
    apply Int.le_antisymm (least_ge f)
    refine least_le (Int.le_refl _) fun j => ?_
    by_cases hj : j < f.2.length
    · rw [atP_get hj]
      have h1 := maxL_ge _ (List.getElem_mem hj)
      have : f.2 ≠ [] := by intro e; rw [e] at hj; simp at hj
      by_cases h2 : f.1 ≤ maxL f.2
      · exact absurd ⟨this, h2⟩ hz
      · omega
    · rw [atP_beyond (by omega)]; omega
theorem zero_iff {f : Nf} (hf : NfOk f) : (f.2 ≠ [] ∧ f.1 ≤ maxL f.2) ↔ ∃ j : Nat, atP f.2 j = leastN f := by
  have h0 := hf.1
  have hge := least_ge f
  constructor
  · rintro ⟨h1, h2⟩
    obtain ⟨j, hj, hjm⟩ := List.getElem_of_mem (maxL_mem h1)
    refine ⟨j, Int.le_antisymm (least_at j (by omega)) ?_⟩
    rw [atP_get hj, hjm]
    exact fold_le h2 fun x hx => maxL_ge x hx
  · rintro ⟨j, hj⟩
    by_cases hlt : j < f.2.length
    · refine ⟨by intro e; rw [e] at hlt; simp at hlt, ?_⟩
      rw [atP_get hlt] at hj
      have := maxL_ge _ (List.getElem_mem hlt)
      omega
    · rw [atP_beyond (by omega)] at hj; omega
theorem short_eq {f h : Nf} (hf : NfOk f) (hh : NfOk h) : shortN f = shortN h ↔ eqR f h := by
  constructor
  · intro e
    exact ⟨fun j => by rw [← atP_short hf, ← atP_short hh, e], by rw [← least_short hf, ← least_short hh, e]⟩
  · rintro ⟨ha, hl⟩
    refine nf_ext ?_ (short_len hf hh ha) fun j => by rw [atP_short hf, atP_short hh, ha]
    have hz : (f.2 ≠ [] ∧ f.1 ≤ maxL f.2) ↔ (h.2 ≠ [] ∧ h.1 ≤ maxL h.2) := by
      rw [zero_iff hf, zero_iff hh, hl]
      exact ⟨fun ⟨j, e⟩ => ⟨j, by rw [← ha]; exact e⟩, fun ⟨j, e⟩ => ⟨j, by rw [ha]; exact e⟩⟩
    rw [short_max hf, short_max hh, hl]
    by_cases hc : f.2 ≠ [] ∧ f.1 ≤ maxL f.2
    · rw [if_pos hc, if_pos (hz.1 hc)]
    · rw [if_neg hc, if_neg fun h' => hc (hz.2 h')]
theorem leqP_iff {a b : Lv} (ha : soundB a = true) (hb : soundB b = true) : leqP a b = true ↔ leqR (sumP a) (sumP b) := by rw [leqP_3 ha hb]; exact leqN_iff (sumP_ok ha) (sumP_ok hb)
theorem eqP_iff {a b : Lv} (ha : soundB a = true) (hb : soundB b = true) : eqP a b = true ↔ eqR (sumP a) (sumP b) := by rw [eqP_3 ha hb, decide_eq_true_iff]; exact short_eq (sumP_ok ha) (sumP_ok hb)
theorem eqR_leqR {f h : Nf} (hf : NfOk f) (hh : NfOk h) : eqR f h ↔ leqR f h ∧ leqR h f := by
  have h0 := hf.1
  have h1 := hh.1
  have g0 := least_ge f
  have g1 := least_ge h
  constructor
  · rintro ⟨ha, hl⟩
    exact ⟨⟨fun j => by rw [ha]; omega, by omega⟩, ⟨fun j => by rw [ha]; omega, by omega⟩⟩
  · rintro ⟨⟨ha, hl⟩, ⟨ha', hl'⟩⟩
    have he : ∀ j : Nat, atP f.2 j = atP h.2 j := fun j => Int.le_antisymm (ha j) (ha' j)
    exact ⟨he, Int.le_antisymm (least_le hl fun j => by rw [he]; exact least_at j (by omega)) (least_le hl' fun j => by rw [← he]; exact least_at j (by omega))⟩
theorem leqR_trans {f g h : Nf} (hg : NfOk g) (hh : NfOk h) (h1 : leqR f g) (h2 : leqR g h) : leqR f h := by
  have g0 := least_ge h
  have := hh.1
  refine ⟨fun j => Int.le_trans (h1.1 j) (h2.1 j), Int.le_trans h1.2 (least_le h2.2 fun j => Int.le_trans (h2.1 j) (least_at j (by omega)))⟩
theorem leqR_or_l {f h : Nf} (hf : NfOk f) : leqR f (orN f h) := by
  have g := least_ge (orN f h)
  rw [or_fst] at g
  exact ⟨fun j => by rw [atP_or]; omega, by omega⟩
theorem leqR_or_r {f h : Nf} (hh : NfOk h) : leqR h (orN f h) := by rw [or_comm]; exact leqR_or_l hh
theorem leqR_or {f g h : Nf} (h1 : leqR f h) (h2 : leqR g h) : leqR (orN f g) h := ⟨fun j => by rw [atP_or]; have := h1.1 j; have := h2.1 j; omega, by rw [or_fst]; have := h1.2; have := h2.2; omega⟩
end Go.Proofs.Ytjlhbaohippidaa
