/-
  A level that comes as an argument.
-/
import Derived.Test.YtjlhbaohippidaaLvW
import Derived.Deep.Slices
import Derived.ChangeArms
namespace Go.Proofs.Ytjlhbaohippidaa
open Go.RowKit Go.Proofs.YtjlhbaohippidaaW.PrintWords Go.RegionInvYtjlhbaohippidaa Go.ChangeShapes Go.WideShapes Go.Deep

instance : Inhabited Lv := ⟨.mk 0 0 []⟩
theorem lv_open {H : Type} {enc : TypeId × Value → H} {W : World} {base : Nat} {sp : Nat → Bool} {held : Bool} (F : Nat) : ∀ (fuel : Nat), fuel ≤ F → ∀ (cs : List Value) (x : DataW H × List MemPlace),
    DataW.trod enc Try.prog W base sp held fuel 24 cs = some x → ∃ (l : Lv) (A : Option Addr) (c : Nat), cs = [.int .i64 l.kind, .int .i64 l.num, .slice A l.kids.length c] ∧ LvS W (fun _ => True) A c l ∧ (Lit.int .i64 l.kind).wf = true ∧ (Lit.int .i64 l.num).wf = true := by
  induction F with
  | zero =>
    intro fuel hF cs x h
    obtain ⟨xs, n, hn, _⟩ := DataW.trod_struct Try.underlying24 h
    omega
  | succ F ih =>
    intro fuel hF cs x h
    obtain ⟨xs, n, hn, hx, hl, hxl, hf⟩ := DataW.trod_struct Try.underlying24 h
    have hl3 : cs.length = 3 := by rw [hl]; kernel_rfl
    match xs, hxl, cs, hl3 with
    | [y0, y1, y2], _, [v0, v1, v2], _ =>
      have g0 : DataW.trod enc Try.prog W base sp held n 3 [v0] = some y0 := hf 0 _ rfl
      have g1 : DataW.trod enc Try.prog W base sp held n 3 [v1] = some y1 := hf 1 _ rfl
      have g2 : DataW.trod enc Try.prog W base sp held n 22 [v2] = some y2 := hf 2 _ rfl
      obtain ⟨k, e0, _, w0⟩ := DataW.trod_int Try.underlying3 g0
      obtain ⟨m, e1, _, w1⟩ := DataW.trod_int Try.underlying3 g1
      obtain rfl : v0 = .int .i64 k := by simpa using e0
      obtain rfl : v1 = .int .i64 m := by simpa using e1
      rcases DataW.trod_slice Try.underlying22 g2 with ⟨e2, _⟩ | ⟨a, len, cap, elems, rest, n', hn', e2, _, _, hle, hm, hlen, hel, _, _⟩
      · obtain rfl : v2 = .slice none 0 0 := by simpa using e2
        exact ⟨.mk k m [], none, 0, rfl, .mk (fun _ => none) (fun _ => 0) (by simp) (by omega) (fun i x hx => by simp at hx) (fun i x hx => by simp at hx), w0, w1⟩
      · obtain rfl : v2 = .slice (some a) len cap := by simpa using e2
        have hc3 : Try.prog.cellsOf 24 = 3 := by kernel_rfl
        rw [hc3] at hel
        have each : ∀ i, i < len → ∃ q : Lv × Option Addr × Nat, W.cells? base (a.add (i * 3)) 3 = some [.int .i64 q.1.kind, .int .i64 q.1.num, .slice q.2.1 q.1.kids.length q.2.2] ∧ LvS W (fun _ => True) q.2.1 q.2.2 q.1 := by
          intro i hi
          have hq := hel i hi
          rw [List.getElem?_eq_getElem (by omega)] at hq
          obtain ⟨cs', h1, h2⟩ := Option.bind_eq_some_iff.1 hq
          obtain ⟨l, A, c, rfl, h3, _⟩ := ih n' (by omega) cs' _ h2
          exact ⟨(l, A, c), h1, h3⟩
        obtain ⟨q, hq⟩ := choose_lt each
        have hcell : ∀ i, i < len → ∀ j, j < 3 → W.cell? ((a.add (i * 3)).add j) = ([.int .i64 (q i).1.kind, .int .i64 (q i).1.num, .slice (q i).2.1 (q i).1.kids.length (q i).2.2] : List Value)[j]? := fun i hi j hj => (World.cells?_some (hq i hi).1).2.2 j hj
        have hget : ∀ (i : Nat) (x : Lv), ((List.range len).map fun i => (q i).1)[i]? = some x → i < len ∧ x = (q i).1 := by
          intro i x hx
          have hi : i < len := by
            rcases Nat.lt_or_ge i len with h | h
            · exact h
            · rw [List.getElem?_eq_none (by simpa using h)] at hx; cases hx
          rw [List.getElem?_map, List.getElem?_range hi] at hx
          exact ⟨hi, (Option.some.inj hx).symm⟩
        refine ⟨.mk k m ((List.range len).map fun i => (q i).1), some a, cap, by simp [Lv.kind, Lv.num, Lv.kids], .mk (fun i => (q i).2.1) (fun i => (q i).2.2) (by simpa using hle) (by simp only [maxLen] at hm; omega) (fun i x hx => ?_) (fun i x hx => ?_), w0, w1⟩
        · obtain ⟨hi, rfl⟩ := hget i x hx
          have hsp : a.spot = none := by
            have h0 := hcell 0 (by omega) 0 (by omega)
            simp only [Nat.zero_mul, Addr.add, if_true] at h0
            cases hs : a.spot with
            | none => rfl
            | some z => simp [World.cell?, hs] at h0; split at h0 <;> simp at h0
          obtain ⟨b, o, z⟩ := a
          obtain rfl : z = none := hsp
          have c0 := hcell i hi 0 (by omega)
          have c1 := hcell i hi 1 (by omega)
          have c2 := hcell i hi 2 (by omega)
          simp only [add_flat] at c0 c1 c2
          exact ⟨_, rfl, trivial, rfl, by rw [add_flat]; exact c0, by rw [add_flat]; exact c1, by rw [add_flat]; exact c2⟩
        · obtain ⟨hi, rfl⟩ := hget i x hx
          exact (hq i hi).2
theorem lv_in {H : Type} {enc : TypeId × Value → H} {W : World} {base : Nat} {sp : Nat → Bool} {held : Bool} {v : Value} {d : DataW H} {ps : List MemPlace} {r : Reach} {b0 : Nat} (hv : Value.okWide Try.prog W r b0 24 v) (h : DataW.Trod enc Try.prog W base sp held 24 v d ps) :
    ∃ (l : Lv) (A : Option Addr) (c : Nat), v = lvV A c l ∧ LvS W (fun _ => True) A c l ∧ (Lit.int .i64 l.kind).wf = true ∧ (Lit.int .i64 l.num).wf = true := by
  obtain ⟨cs, rfl, hcs⟩ := okWide_struct Try.underlying24 hv
  obtain ⟨fuel, hf⟩ := h
  obtain ⟨l, A, c, he, hl, hk, hn⟩ := lv_open fuel fuel (Nat.le_refl _) _ _ hf
  refine ⟨l, A, c, ?_, hl, hk, hn⟩
  unfold lvV
  congr 1
  apply Array.toList_inj.1
  simpa [Value.cells] using he
end Go.Proofs.Ytjlhbaohippidaa
