/-
  Rows of bytes: the plain laws, and how they lie in memory.
-/
import Derived.Test.YtcgmfbefikpkbaaWireD
import Derived.Test.YtcgmfbefikpkbaaOpsB
namespace Go.Proofs.Ytcgmfbefikpkbaa
open Go.RowKit Go.Proofs.YtcgmfbefikpkbaaW.PrintWords Go.RegionInvYtcgmfbefikpkbaa

/-! ### Plain laws -/
/-- So many rows of at most q bytes, from 'at' on. -/
def takeK (q : Int) (xs : List Int) : Nat → Nat → List (List Int) → List (List Int) × Int × Int
  | 0, at_, acc => (acc, (at_ : Int), 0)
  | k + 1, at_, acc => if (takeB (xs.drop at_) q).2.2 ≠ 0 then ([], 0, (takeB (xs.drop at_) q).2.2) else takeK q xs k (at_ + (takeB (xs.drop at_) q).2.1.toNat) (acc ++ [(takeB (xs.drop at_) q).1])
def takeL (q : Int) (xs : List Int) (most : Int) : List (List Int) × Int × Int :=
  if (takeN xs).2.2 ≠ 0 then ([], 0, (takeN xs).2.2) else if most < 0 ∨ most < (takeN xs).1 then ([], 0, 18) else takeK q xs (takeN xs).1.toNat (takeN xs).2.1.toNat []
theorem takeK_bad {q : Int} {xs : List Int} {k at_ : Nat} {acc : List (List Int)} (h : (takeB (xs.drop at_) q).2.2 ≠ 0) : takeK q xs (k + 1) at_ acc = ([], 0, (takeB (xs.drop at_) q).2.2) := by rw [takeK, if_pos h]
theorem takeK_ok {q : Int} {xs : List Int} {k at_ : Nat} {acc : List (List Int)} (h : (takeB (xs.drop at_) q).2.2 = 0) : takeK q xs (k + 1) at_ acc = takeK q xs k (at_ + (takeB (xs.drop at_) q).2.1.toNat) (acc ++ [(takeB (xs.drop at_) q).1]) := by rw [takeK, if_neg (by simpa using h)]
theorem takeL_err {q : Int} {xs : List Int} {most e : Int} (h : takeN xs = (0, 0, e)) (he : e ≠ 0) : takeL q xs most = ([], 0, e) := by unfold takeL; rw [h]; simp [he]
theorem takeL_many {q : Int} {xs : List Int} {most : Int} {m k : Nat} (h : takeN xs = ((m : Int), (k : Int), 0)) (hm : most < 0 ∨ most < m) : takeL q xs most = ([], 0, 18) := by unfold takeL; rw [h]; simp [hm]
theorem takeL_ok {q : Int} {xs : List Int} {most : Int} {m k : Nat} (h : takeN xs = ((m : Int), (k : Int), 0)) (hm : ¬ (most < 0 ∨ most < m)) : takeL q xs most = takeK q xs m k [] := by unfold takeL; rw [h]; simp only [ne_eq, not_true_eq_false, if_false, if_neg hm, Int.toNat_natCast]
def putRows (rows : List (List Int)) : List Int := (rows.map putB).flatten
theorem putRows_cons (r : List Int) (rows : List (List Int)) : putRows (r :: rows) = putB r ++ putRows rows := rfl
theorem putRows_snoc (r : List Int) (rows : List (List Int)) : putRows (rows ++ [r]) = putRows rows ++ putB r := by simp [putRows]
theorem putB_pos (r : List Int) : 1 ≤ (putB r).length := by unfold putB; have := putN_pos (r.length : Int); simp; omega
theorem takeB_put {r ys : List Int} {q : Int} (h : (r.length : Int) ≤ q) (h2 : r.length ≤ 18446744073709551615) : takeB (putB r ++ ys) q = (r, ((putB r).length : Int), 0) := by
  have ht := take_put (n := (r.length : Int)) (r ++ ys) (by omega) (by omega)
  unfold putB
  rw [List.append_assoc]
  rw [takeB_ok ht (by omega) (by simp only [List.length_append, Int.natCast_add]; omega)]
  simp
theorem takeB_cut {r : List Int} {q : Int} (h : (r.length : Int) ≤ q) (h2 : r.length ≤ 18446744073709551615) (j : Nat) (hj : j < (putB r).length) : takeB ((putB r).take j) q = ([], 0, 3) := by
  unfold putB at hj ⊢
  by_cases hlt : j < (putN (r.length : Int)).length
  · have e : (putN (r.length : Int) ++ r).take j = (putN (r.length : Int)).take j := by rw [List.take_append_of_le_length (by omega)]
    rw [e, takeB_err (take_cut (by omega) (by omega) j hlt) (by decide)]
  · obtain ⟨i, rfl⟩ : ∃ i, j = (putN (r.length : Int)).length + i := ⟨j - (putN (r.length : Int)).length, by omega⟩
    rw [List.take_length_add_append]
    have ht := take_put (n := (r.length : Int)) (r.take i) (by omega) (by omega)
    rw [takeB_short ht (by omega)]
    simp only [List.length_append, List.length_take, Int.natCast_add]
    simp only [List.length_append] at hj
    omega
theorem takeK_put {q : Int} : ∀ (rows : List (List Int)) (pre ys : List Int) (acc : List (List Int)), (∀ r ∈ rows, (r.length : Int) ≤ q ∧ r.length ≤ 18446744073709551615) →
    takeK q (pre ++ putRows rows ++ ys) rows.length pre.length acc = (acc ++ rows, ((pre ++ putRows rows).length : Int), 0)
  | [], pre, ys, acc, _ => by simp [takeK, putRows]
  | r :: rows, pre, ys, acc, h => by
    have hr := h r (by simp)
    have hd : (pre ++ putRows (r :: rows) ++ ys).drop pre.length = putB r ++ (putRows rows ++ ys) := by
      rw [putRows_cons, List.append_assoc, List.append_assoc, List.drop_left]
    have ht := takeB_put (ys := putRows rows ++ ys) hr.1 hr.2
    rw [List.length_cons, takeK_ok (by rw [hd, ht]), hd, ht]
    have ih := takeK_put rows (pre ++ putB r) ys (acc ++ [r]) (fun x hx => h x (by simp [hx]))
    simp only [Int.toNat_natCast]
    rw [show pre.length + (putB r).length = (pre ++ putB r).length by simp, show pre ++ putRows (r :: rows) ++ ys = pre ++ putB r ++ putRows rows ++ ys by rw [putRows_cons]; simp, ih, putRows_cons]
    simp
theorem takeK_cut {q : Int} : ∀ (rows : List (List Int)) (pre : List Int) (acc : List (List Int)), rows ≠ [] → (∀ r ∈ rows, (r.length : Int) ≤ q ∧ r.length ≤ 18446744073709551615) →
    takeK q (pre ++ (putRows rows).take ((putRows rows).length - 1)) rows.length pre.length acc = ([], 0, 3)
  | [], _, _, hne, _ => absurd rfl hne
  | [r], pre, acc, _, h => by
    have hr := h r (by simp)
    have e : putRows [r] = putB r := by simp [putRows]
    have hp := putB_pos r
    have ht := takeB_cut hr.1 hr.2 ((putB r).length - 1) (by omega)
    have hd : (pre ++ (putRows [r]).take ((putRows [r]).length - 1)).drop pre.length = (putB r).take ((putB r).length - 1) := by rw [List.drop_left, e]
    rw [show [r].length = 0 + 1 from rfl, takeK_bad (by rw [hd, ht]; decide), hd, ht]
  | r :: r2 :: rows, pre, acc, _, h => by
    have hr := h r (by simp)
    have hp : 1 ≤ (putRows (r2 :: rows)).length := by rw [putRows_cons]; have := putB_pos r2; simp; omega
    have e : (putRows (r :: r2 :: rows)).take ((putRows (r :: r2 :: rows)).length - 1) = putB r ++ (putRows (r2 :: rows)).take ((putRows (r2 :: rows)).length - 1) := by
      rw [putRows_cons r, List.length_append, show (putB r).length + (putRows (r2 :: rows)).length - 1 = (putB r).length + ((putRows (r2 :: rows)).length - 1) by omega, List.take_length_add_append]
    have hd : (pre ++ (putRows (r :: r2 :: rows)).take ((putRows (r :: r2 :: rows)).length - 1)).drop pre.length = putB r ++ (putRows (r2 :: rows)).take ((putRows (r2 :: rows)).length - 1) := by
      rw [e, List.drop_left]
    have ht := takeB_put (ys := (putRows (r2 :: rows)).take ((putRows (r2 :: rows)).length - 1)) hr.1 hr.2
    rw [List.length_cons, takeK_ok (by rw [hd, ht]), hd, ht]
    have ih := takeK_cut (r2 :: rows) (pre ++ putB r) (acc ++ [r]) (by simp) (fun x hx => h x (by simp [List.mem_cons] at hx ⊢; exact .inr hx))
    simp only [Int.toNat_natCast]
    rw [show pre.length + (putB r).length = (pre ++ putB r).length by simp, e, ← List.append_assoc, ih]
theorem putRows_bytes {rows : List (List Int)} (h : ∀ r ∈ rows, Bytes r ∧ r.length ≤ 18446744073709551615) : Bytes (putRows rows) := by
  induction rows with
  | nil => exact Bytes.nil
  | cons r rows ih => rw [putRows_cons]; exact (putB_bytes (h r (by simp)).1 (h r (by simp)).2).append (ih fun x hx => h x (by simp [hx]))
/-- Rows as bytes. -/
def putL (rows : List (List Int)) : List Int := putN rows.length ++ putRows rows
theorem takeL_put {q most : Int} {rows : List (List Int)} (h : ∀ r ∈ rows, (r.length : Int) ≤ q ∧ r.length ≤ 18446744073709551615) (hm : (rows.length : Int) ≤ most) (hl : rows.length ≤ 18446744073709551615) :
    takeL q (putL rows) most = (rows, ((putL rows).length : Int), 0) := by
  have ht := take_put (n := (rows.length : Int)) (putRows rows) (by omega) (by omega)
  have hk := takeK_put rows (putN (rows.length : Int)) [] [] h
  rw [List.append_nil] at hk
  show takeL q (putN (rows.length : Int) ++ putRows rows) most = _
  rw [takeL_ok ht (by omega), hk]
  simp [putL]
theorem takeL_cut {q most : Int} {rows : List (List Int)} (h : ∀ r ∈ rows, (r.length : Int) ≤ q ∧ r.length ≤ 18446744073709551615) (hm : (rows.length : Int) ≤ most) (hl : rows.length ≤ 18446744073709551615) :
    takeL q ((putL rows).take ((putL rows).length - 1)) most = ([], 0, 3) := by
  have hp := putN_pos (rows.length : Int)
  by_cases hne : rows = []
  · subst hne
    have e : (putL []).take ((putL []).length - 1) = [] := by
      unfold putL; rw [show ((([] : List (List Int)).length : Nat) : Int) = 0 from rfl, putN_lt (by decide)]; simp [putRows]
    rw [e]
    exact takeL_err (takeN_short (by rfl)) (by decide)
  · have hpr : 1 ≤ (putRows rows).length := by
      cases rows with
      | nil => exact absurd rfl hne
      | cons r rows => rw [putRows_cons]; have := putB_pos r; simp; omega
    have e : (putL rows).take ((putL rows).length - 1) = putN (rows.length : Int) ++ (putRows rows).take ((putRows rows).length - 1) := by
      unfold putL
      rw [List.length_append, show (putN (rows.length : Int)).length + (putRows rows).length - 1 = (putN (rows.length : Int)).length + ((putRows rows).length - 1) by omega, List.take_length_add_append]
    have ht := take_put (n := (rows.length : Int)) ((putRows rows).take ((putRows rows).length - 1)) (by omega) (by omega)
    rw [e, takeL_ok ht (by omega), takeK_cut rows _ [] hne h]
theorem putRows_len {rows : List (List Int)} {b : Nat} (h : ∀ r ∈ rows, r.length ≤ b) (hb : b ≤ 18446744073709551615) : (putRows rows).length ≤ rows.length * (b + 10) := by
  induction rows with
  | nil => simp [putRows]
  | cons r rows ih =>
    have h1 := h r (by simp)
    have h2 := putB_len r (by omega)
    have := ih fun x hx => h x (by simp [hx])
    rw [putRows_cons, List.length_append, List.length_cons, Nat.succ_mul]
    omega

/-! ### In memory -/
def Elems (w : World) (B : Nat) (vs : List Value) (rows : List (List Int)) : Prop := vs.length = rows.length ∧ ∀ (j : Nat) (v : Value) (r : List Int), vs[j]? = some v → rows[j]? = some r → OwnB w B v r
/-- Rows of the call's own. -/
def OwnL (w : World) (B : Nat) (v : Value) (rows : List (List Int)) : Prop := ∃ vs, w.ownsRow B 22 1 v vs.length vs ∧ Elems w B vs rows
/-- Rows that can be read. -/
def ReadsRows (w : World) (A : Option Addr) (n : Nat) (rows : List (List Int)) : Prop :=
  rows.length = n ∧ n ≤ 9223372036854775807 ∧ ∀ (j : Nat) (r : List Int), rows[j]? = some r → ∃ ad A' m c, A = some ad ∧ w.cell? (ad.add j) = some (.slice A' m c) ∧ m ≤ c ∧ ReadsInt w .u8 A' m r
theorem ReadsRows.below {w w' : World} {A : Option Addr} {n : Nat} {rows : List (List Int)} (h : ReadsRows w A n rows) (hb : Below w.heap.size w w') : ReadsRows w' A n rows := by
  refine ⟨h.1, h.2.1, fun j r hr => ?_⟩
  obtain ⟨ad, A', m, c, e, hc, hm, hr'⟩ := h.2.2 j r hr
  exact ⟨ad, A', m, c, e, (hb.cell (World.block_lt_of_cell? w _ hc)).trans hc, hm, hr'.below hb⟩
theorem ReadsRows.at_ {w : World} {A : Option Addr} {n : Nat} {rows : List (List Int)} (h : ReadsRows w A n rows) (j : Nat) (hj : j < n) : ∃ ad A' m c r, A = some ad ∧ w.cell? (ad.add j) = some (.slice A' m c) ∧ m ≤ c ∧ ReadsInt w .u8 A' m r ∧ rows[j]? = some r := by
  have hl := h.1
  have hr : rows[j]? = some (rows[j]'(by omega)) := List.getElem?_eq_getElem _
  obtain ⟨ad, A', m, c, e, hc, hm, hr'⟩ := h.2.2 j _ hr
  exact ⟨ad, A', m, c, _, e, hc, hm, hr', hr⟩
theorem OwnL.nil (w : World) (B : Nat) : OwnL w B (.slice none 0 0) [] := ⟨[], own_nil _ _ _ _, rfl, fun j v r h => by simp at h⟩
theorem OwnL.below {w w' : World} {B : Nat} {v : Value} {rows : List (List Int)} (h : OwnL w B v rows) (hb : Below w.heap.size w w') : OwnL w' B v rows := by
  obtain ⟨vs, ho, hl, he⟩ := h
  exact ⟨vs, pw_own_below ho hb, hl, fun j v r hv hr => pw_own_below (he j v r hv hr) hb⟩
theorem OwnL.slice {w : World} {B : Nat} {v : Value} {rows : List (List Int)} (h : OwnL w B v rows) : ∃ A m c, v = .slice A m c ∧ m = rows.length ∧ ReadsRows w A m rows := by
  obtain ⟨vs, ho, hl, he⟩ := h
  obtain ⟨A, c, rfl⟩ := own_slice ho
  refine ⟨A, vs.length, c, rfl, hl, hl.symm, ?_, fun j r hr => ?_⟩
  · rcases ho.2 with ⟨_, h1⟩ | ⟨g', cap', cur, he, _, _, h1, h2, _⟩
    · omega
    · simp only [maxLen] at h2
      omega
  · have hj : j < vs.length := by
      rcases Nat.lt_or_ge j rows.length with h | h
      · omega
      · rw [List.getElem?_eq_none h] at hr; cases hr
    obtain ⟨g, cap, hv, _, _⟩ := ho.form (by omega)
    have hvj : vs[j]? = some vs[j] := List.getElem?_eq_getElem _
    have hoj := he j _ _ hvj hr
    obtain ⟨A', m, c', e1, _, h3, h4⟩ := hoj.reads
    have hc := ho.cells (g := g) (by rw [hv]; rfl) j _ hvj
    injection hv with hA
    exact ⟨_, A', m, c', hA, by rw [← e1]; exact hc, h3, h4⟩
theorem OwnL.len {w : World} {B : Nat} {v : Value} {rows : List (List Int)} (h : OwnL w B v rows) : ∃ vs, w.ownsRow B 22 1 v vs.length vs ∧ vs.length = rows.length ∧ Elems w B vs rows := by
  obtain ⟨vs, ho, he⟩ := h
  exact ⟨vs, ho, he.1, he⟩
theorem OwnL.push {w w1 : World} {B : Nat} {v v1 x : Value} {rows : List (List Int)} {r : List Int} {vs : List Value} (h : w.ownsRow B 22 1 v vs.length vs) (he : Elems w B vs rows) (hx : OwnB w B x r)
    (ho : w1.ownsRow B 22 1 v1 (vs ++ [x]).length (vs ++ [x])) (hg : w.grownBy w1 v.ownBlock) : OwnL w1 B v1 (rows ++ [r]) := by
  have keep : ∀ {u : Value} {s : List Int}, OwnB w B u s → OwnB w1 B u s := fun hu => own_other hu hg (own_type_ne hu h (by decide))
  refine ⟨vs ++ [x], ho, by simp [he.1], fun j u s hu hs => ?_⟩
  have hl := he.1
  rcases Nat.lt_or_ge j vs.length with hj | hj
  · rw [List.getElem?_append_left hj] at hu
    rw [List.getElem?_append_left (by omega)] at hs
    exact keep (he.2 j u s hu hs)
  · rw [List.getElem?_append_right hj] at hu
    rw [List.getElem?_append_right (by omega), ← hl] at hs
    cases e : j - vs.length with
    | zero =>
      rw [e] at hu hs
      obtain rfl : x = u := by simpa using hu
      obtain rfl : r = s := by simpa using hs
      exact keep hx
    | succ i => rw [e] at hu; simp at hu
theorem infoBs : (Try.prog.info? 22).map (fun i => (i.zero, i.size, i.bytes)) = some (some (.slice none 0 0), 1, 24) := by kernel_rfl
end Go.Proofs.Ytcgmfbefikpkbaa
