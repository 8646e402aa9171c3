/-
  What of tells: the sum of a good level, sums in the place of its variables; how such sums lie in memory.
-/
import Derived.Test.YtjlhbaohippidaaNfO
import Derived.Test.YtjlhbaohippidaaRep
namespace Go.Proofs.Ytjlhbaohippidaa
open Go.RowKit Go.Proofs.YtjlhbaohippidaaW.PrintWords Go.RegionInvYtjlhbaohippidaa Go.RegionEYtjlhbaohippidaa

abbrev Nf := Int × List Int
def NfOk (f : Nf) : Prop := 0 ≤ f.1 ∧ f.1 ≤ 1099511627776 ∧ (∀ x ∈ f.2, -1 ≤ x ∧ x ≤ 1099511627776) ∧ f.2.length ≤ 1000000
def varN (fs : List Nf) (n : Int) : Nf := if n < fs.length then fs.getD n.toNat (0, []) else (0, List.replicate n.toNat (-1) ++ [0])
mutual
def ofP (fs : List Nf) : Lv → Nf
  | .mk k n ks => if k = 1 then (n, []) else if k = 3 then plusN n (of0 fs ks) else if k = 4 then orN (of0 fs ks) (of1 fs ks) else varN fs n
def of0 (fs : List Nf) : List Lv → Nf
  | [] => (0, [])
  | x :: _ => ofP fs x
def of1 (fs : List Nf) : List Lv → Nf
  | [] => (0, [])
  | _ :: r => of0 fs r
end
theorem ofP_num (fs : List Nf) (n : Int) (ks : List Lv) : ofP fs (.mk 1 n ks) = (n, []) := by rw [ofP]; rfl
theorem ofP_succ (fs : List Nf) (n : Int) (x : Lv) : ofP fs (.mk 3 n [x]) = plusN n (ofP fs x) := by rw [ofP, of0]; rfl
theorem ofP_max (fs : List Nf) (n : Int) (x y : Lv) : ofP fs (.mk 4 n [x, y]) = orN (ofP fs x) (ofP fs y) := by rw [ofP, of0, of1, of0]; rfl
theorem ofP_var (fs : List Nf) (n : Int) (ks : List Lv) : ofP fs (.mk 2 n ks) = varN fs n := by rw [ofP]; rfl
theorem good_cases {k n : Int} {ks : List Lv} (h : Good (.mk k n ks)) : (k = 1 ∧ ks = [] ∧ 0 ≤ n ∧ n ≤ 1099511627776) ∨ (k = 2 ∧ ks = [] ∧ 0 ≤ n ∧ n ≤ 1000) ∨ (k = 3 ∧ ∃ x, ks = [x] ∧ 1 ≤ n ∧ n ≤ 1099511627776 ∧ Good x) ∨ (k = 4 ∧ ∃ x y, ks = [x, y] ∧ Good x ∧ Good y) := by
  cases h with
  | mk h hk =>
    unfold rightP at h
    split at h
    · cases h
    · rename_i h1
      have h2 : (ks.length : Int) = arityP k := by simpa [Lv.kids, Lv.kind] using h1
      simp only [Lv.kind, Lv.num] at h
      unfold arityP at h2
      by_cases k1 : k = 1
      · subst k1
        refine .inl ⟨rfl, List.eq_nil_of_length_eq_zero (by simpa using h2), ?_⟩
        exact of_decide_eq_true h
      · by_cases k2 : k = 2
        · subst k2
          refine .inr (.inl ⟨rfl, List.eq_nil_of_length_eq_zero (by simpa using h2), ?_⟩)
          exact of_decide_eq_true h
        · by_cases k3 : k = 3
          · subst k3
            refine .inr (.inr (.inl ⟨rfl, ?_⟩))
            match ks, h2, hk with
            | [x], _, hk => exact ⟨x, rfl, (of_decide_eq_true h).1, (of_decide_eq_true h).2, hk x (by simp)⟩
            | [], h2, _ => simp at h2
            | x :: y :: r, h2, _ => simp at h2; omega
          · by_cases k4 : k = 4
            · subst k4
              refine .inr (.inr (.inr ⟨rfl, ?_⟩))
              match ks, h2, hk with
              | [x, y], _, hk => exact ⟨x, y, rfl, hk x (by simp), hk y (by simp)⟩
              | [], h2, _ => simp at h2
              | [x], h2, _ => simp at h2
              | x :: y :: z :: r, h2, _ => simp at h2; omega
            · simp [k1, k2, k3, k4] at h2
theorem plusN_ok {n : Int} {f : Nf} (h : NfOk f) (h0 : 0 ≤ n) (_h1 : n ≤ 1099511627776) : NfOk (plusN n f) := by
  obtain ⟨a, b, c, d⟩ := h
  refine ⟨by simp only [plusN]; omega, by simp only [plusN]; omega, fun x hx => ?_, by simpa [plusN] using d⟩
  obtain ⟨y, hy, rfl⟩ := List.mem_map.1 hx
  have := c y hy
  unfold addN
  split <;> omega
theorem atP_ok {ks : List Int} (h : ∀ x ∈ ks, -1 ≤ x ∧ x ≤ 1099511627776) (j : Nat) : -1 ≤ atP ks j ∧ atP ks j ≤ 1099511627776 := by
  unfold atP
  split
  · rename_i hlt
    have hl : j < ks.length := by omega
    rw [rd_nat', List.getD_eq_getElem?_getD, List.getElem?_eq_getElem hl]
    exact h _ (List.getElem_mem _)
  · omega
theorem orN_ok {f h : Nf} (hf : NfOk f) (hh : NfOk h) : NfOk (orN f h) := by
  obtain ⟨a, b, c, d⟩ := hf
  obtain ⟨a', b', c', d'⟩ := hh
  refine ⟨by simp only [orN]; omega, by simp only [orN]; omega, fun x hx => ?_, by simp only [orN, List.length_map, List.length_range]; omega⟩
  obtain ⟨j, _, rfl⟩ := List.mem_map.1 hx
  have := atP_ok c j
  have := atP_ok c' j
  omega
theorem varN_ok {fs : List Nf} {n : Int} (hfs : ∀ f ∈ fs, NfOk f) (_h0 : 0 ≤ n) (h1 : n ≤ 1000) : NfOk (varN fs n) := by
  unfold varN
  split
  · rename_i hlt
    have hl : n.toNat < fs.length := by omega
    rw [List.getD_eq_getElem?_getD, List.getElem?_eq_getElem hl]
    exact hfs _ (List.getElem_mem _)
  · refine ⟨Int.le_refl 0, (by decide : (0 : Int) ≤ 1099511627776), fun x hx => ?_, by simp; omega⟩
    rcases List.mem_append.1 hx with h | h
    · rw [List.eq_of_mem_replicate h]; omega
    · obtain rfl : x = 0 := by simpa using h
      omega
theorem ofP_ok {fs : List Nf} (hfs : ∀ f ∈ fs, NfOk f) : ∀ {l : Lv}, Good l → NfOk (ofP fs l) := by
  intro l h
  induction h with
  | @mk k n ks h hk ih =>
    rcases good_cases (.mk h hk) with ⟨rfl, rfl, h0, h1⟩ | ⟨rfl, rfl, h0, h1⟩ | ⟨rfl, x, rfl, h0, h1, -⟩ | ⟨rfl, x, y, rfl, -, -⟩
    · rw [ofP_num]; exact ⟨h0, h1, (fun x hx => absurd hx (by simp)), Nat.zero_le _⟩
    · rw [ofP_var]; exact varN_ok hfs h0 h1
    · rw [ofP_succ]; exact plusN_ok (ih x (by simp)) (by omega) h1
    · rw [ofP_max]; exact orN_ok (ih x (by simp)) (ih y (by simp))

/-- Sum i of a row of sums. -/
def NfAt (w : World) (S : Nat → Prop) (A : Option Addr) (i : Nat) (f : Nf) : Prop :=
  ∃ b o A' c', A = some ⟨b, o, none⟩ ∧ S b ∧ w.cell? ⟨b, o + i * 2, none⟩ = some (.int .i64 f.1) ∧ w.cell? ⟨b, o + i * 2 + 1, none⟩ = some (.slice A' f.2.length c') ∧ f.2.length ≤ c' ∧ IntsS w S A' f.2.length f.2
def NfsS (w : World) (S : Nat → Prop) (A : Option Addr) (fs : List Nf) : Prop := ∀ (i : Nat) (f : Nf), fs[i]? = some f → NfAt w S A i f
theorem NfAt.same {w w' : World} {S : Nat → Prop} {A : Option Addr} {i : Nat} {f : Nf} (h : NfAt w S A i f) (hs : ∀ k, S k → k < w.heap.size → w'.heap[k]? = w.heap[k]?) : NfAt w' S A i f := by
  obtain ⟨b, o, A', c', e, hb, h1, h2, h3, h4⟩ := h
  have hz : b < w.heap.size := World.block_lt_of_cell? w _ h1
  have key : ∀ j, w'.cell? ⟨b, j, none⟩ = w.cell? ⟨b, j, none⟩ := fun j => cell_same (hs _ hb hz)
  exact ⟨b, o, A', c', e, hb, (key _).trans h1, (key _).trans h2, h3, h4.same hs⟩
theorem NfAt.mono {w : World} {S S' : Nat → Prop} {A : Option Addr} {i : Nat} {f : Nf} (h : NfAt w S A i f) (hs : ∀ k, S k → k < w.heap.size → S' k) : NfAt w S' A i f := by
  obtain ⟨b, o, A', c', e, hb, h1, h2, h3, h4⟩ := h
  exact ⟨b, o, A', c', e, hs _ hb (World.block_lt_of_cell? w _ h1), h1, h2, h3, h4.mono hs⟩
theorem NfsS.same {w w' : World} {S : Nat → Prop} {A : Option Addr} {fs : List Nf} (h : NfsS w S A fs) (hs : ∀ k, S k → k < w.heap.size → w'.heap[k]? = w.heap[k]?) : NfsS w' S A fs := fun i f hf => (h i f hf).same hs
theorem NfsS.mono {w : World} {S S' : Nat → Prop} {A : Option Addr} {fs : List Nf} (h : NfsS w S A fs) (hs : ∀ k, S k → k < w.heap.size → S' k) : NfsS w S' A fs := fun i f hf => (h i f hf).mono hs
theorem NfsS.nil (w : World) (S : Nat → Prop) (A : Option Addr) : NfsS w S A [] := fun i f hf => by simp at hf

/-- A sum as a value, its numbers in blocks of T or of one's own. -/
def NfV (T : Nat → Prop) (f : Nf) (v : Value) (w : World) (O : Nat → Prop) : Prop := ∃ A n cap, v = .agg #[.int .i64 f.1, .slice A n cap] ∧ n ≤ cap ∧ IntsS w (fun k => T k ∨ O k) A n f.2
theorem stableE_nf {w0 : World} {E : Nat → Nat → Prop} {T : Nat → Prop} {f : Nf} (hT : ∀ k, T k → Fix w0 E k) : StableE w0 E (NfV T f) := by
  rintro v w w' O ⟨A, n, cap, e, h1, h2⟩ hz hk
  exact ⟨A, n, cap, e, h1, h2.same fun k hk' hz' => hk k hz' (hk'.imp (hT k) id)⟩
theorem NfV.of_got {w w' : World} {T : Nat → Prop} {f : Nf} {e : Ending} (h : NfGot w T f e w') : ∃ v, e = .returned v ∧ NfV T f v w' (fun k => w.heap.size ≤ k ∧ k < w'.heap.size) ∧ Below w.heap.size w w' := by
  obtain ⟨A, n, cap, rfl, h1, h2, h3⟩ := h
  exact ⟨_, rfl, ⟨A, n, cap, rfl, h1, h2.mono fun b hb hz => hb.imp id fun h => ⟨h, hz⟩⟩, h3⟩
/-- A sum in its box. -/
def NfBox (g : Nat) (T : Nat → Prop) (f : Nf) (w : World) (O : Nat → Prop) : Prop := ∃ A n cap, w.heap[g]? = some (.cells #[.int .i64 f.1, .slice A n cap] 52 (0, 0)) ∧ O g ∧ n ≤ cap ∧ IntsS w (fun k => T k ∨ (O k ∧ k ≠ g)) A n f.2
theorem stableE_nfbox {w0 : World} {E : Nat → Nat → Prop} {T : Nat → Prop} {f : Nf} {g : Nat} (hT : ∀ k, T k → Fix w0 E k) : StableE w0 E (fun _ w O => NfBox g T f w O) := by
  rintro v w w' O ⟨A, n, cap, hb, hO, h1, h2⟩ hz hk
  exact ⟨A, n, cap, (hk g (blk_lt hb) (.inr hO)).trans hb, hO, h1, h2.same fun k hk' hz' => hk k hz' (hk'.imp (hT k) And.left)⟩
end Go.Proofs.Ytjlhbaohippidaa
