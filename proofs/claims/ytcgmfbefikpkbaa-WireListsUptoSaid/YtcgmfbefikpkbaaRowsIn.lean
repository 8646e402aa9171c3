/-
  Rows of bytes that come as an argument: what is read of them, and their bulk.
-/
import Derived.Test.YtcgmfbefikpkbaaBulk
import Derived.Test.YtcgmfbefikpkbaaWireL
import Derived.Deep.Matrix
namespace Go.Proofs.Ytcgmfbefikpkbaa
open Go.RowKit Go.Proofs.YtcgmfbefikpkbaaW.PrintWords Go.ChangeShapes Go.WideShapes Go.Deep

theorem bulk_sum {H : Type} (f : Nat → DataW H) (g : Nat → Nat) : ∀ l : List Nat, (∀ r ∈ l, g r ≤ Rows.uptoBulk (f r)) → (l.map g).sum ≤ Rows.uptoBulkAll (l.map f)
  | [], _ => by simp
  | r :: l, h => by
    have h1 := h r (by simp)
    have h2 := bulk_sum f g l fun x hx => h x (by simp [hx])
    simp only [List.map_cons, List.sum_cons, Rows.uptoBulkAll]
    omega
theorem rows_in {H : Type} {enc : TypeId × Value → H} {W : World} {base : Nat} {held : Bool} {a : Option Addr} {len cap : Nat} {d : DataW H} {ps : List MemPlace}
    (h : DataW.Trod enc Try.prog W base (fun _ => true) held 42 (.slice a len cap) d ps) :
    ∃ rows : List (List Int), ReadsRows W a len rows ∧ (∀ r ∈ rows, Bytes r) ∧ (rows.map List.length).sum ≤ Rows.uptoBulk d := by
  obtain ⟨fuel, hf⟩ := h
  rcases open_int_rows Try.underlying42 Try.underlying22 Try.underlying5 (by kernel_rfl) (by kernel_rfl) hf with ⟨hcs, _⟩ | ⟨x, l, c, A, L, C, Z, hcs, _, hl, hm, hx, hrow⟩
  · simp [Value.cells] at hcs
    obtain ⟨rfl, rfl, rfl⟩ := hcs
    exact ⟨[], ⟨rfl, by omega, fun j r hr => (by simp at hr)⟩, fun r hr => (by cases hr), by simp⟩
  · simp [Value.cells] at hcs
    obtain ⟨rfl, rfl, rfl⟩ := hcs
    simp only [maxLen] at hm
    refine ⟨(List.range len).map fun r => (Z r).take (L r), ⟨by simp, by omega, fun j r hr => ?_⟩, fun r hr => ?_, ?_⟩
    · have hj : j < len := by
        rcases Nat.lt_or_ge j len with h | h
        · exact h
        · rw [List.getElem?_eq_none (by simpa using h)] at hr; cases hr
      rw [List.getElem?_map, List.getElem?_range hj] at hr
      obtain rfl : (Z j).take (L j) = r := by simpa using hr
      obtain ⟨hc, hL, hC, hZ, hw, h0, ha⟩ := hrow j (by omega)
      simp only [maxLen] at hC
      refine ⟨x, A j, L j, C j, rfl, hc, hL, by simp; omega, by omega, fun hpos => ?_⟩
      cases hA : A j with
      | none => have := h0 hA; omega
      | some a' =>
        refine ⟨a', rfl, fun i hi => ?_⟩
        rw [(ha a' hA).2 i (by omega)]
        simp [List.getD_eq_getElem?_getD, List.getElem?_take, hi]
    · obtain ⟨j, hj, rfl⟩ := List.mem_map.1 hr
      have hj' : j < len := by simpa using hj
      obtain ⟨hc, hL, hC, hZ, hw, h0, ha⟩ := hrow j (by omega)
      intro z hz
      have := hw z (List.mem_of_mem_take hz)
      simpa [Lit.wf, IntKind.min, IntKind.max, IntKind.signed, IntKind.bits] using this
    · obtain ⟨hd, _⟩ := Prod.mk.inj hx
      subst hd
      simp only [Rows.uptoBulk]
      rw [List.map_map]
      have := bulk_sum (fun r => intRow (H := H) .u8 (A r) (L r) (Z r)) (List.length ∘ fun r => (Z r).take (L r)) (List.range len) fun r hr => by
        have hj' : r < len := by simpa using hr
        obtain ⟨hc, hL, hC, hZ, hw, h0, ha⟩ := hrow r (by omega)
        unfold intRow
        cases hA : A r with
        | none => have := h0 hA; simp; omega
        | some a' =>
          have h1 := bulks.slice_le (H := H) (lits .u8 ((Z r).take (L r))) (lits .u8 ((Z r).drop (L r)))
          simp only [lits, List.length_map] at h1
          simp only [Function.comp_apply]
          simp only [lits]
          omega
      omega
end Go.Proofs.Ytcgmfbefikpkbaa
