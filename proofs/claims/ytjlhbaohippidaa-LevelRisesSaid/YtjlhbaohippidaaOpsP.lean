/-
  What operations of a region with levels owe: Plus, Leq.
-/
import Derived.Test.YtjlhbaohippidaaOrd
import Derived.Test.YtjlhbaohippidaaLit
namespace Go.Proofs.Ytjlhbaohippidaa
open Go.RowKit Go.Proofs.YtjlhbaohippidaaW.PrintWords Go.RegionInvYtjlhbaohippidaa Go.RegionEYtjlhbaohippidaa
section
variable {ops : Array Oper} {Q : Exit → Act → World → Prop} {R : Nat → Prop} {a : Act} {w : World} {o : Oper} {T : Nat → Prop}

theorem obE_lvPlus {l : Lv} {n : Int} {O1 : Nat → Prop} {x y : Operand} {ts : Array TypeId} (ho : o.op = .call { callee := .value (.func 20), args := #[x, y], argTypes := ts }) (hw : Region.wanted o (yielded ops a.tmps) = true)
    (hn : a.eval x = .int .i64 n) (h1 : LvV T l (a.eval y) w O1) (hn1 : n ≤ 9223372036854775807) (hl : -9223372036854775808 ≤ l.num) (hR1 : ∀ k, O1 k → R k) : OwesE Try.prog ops Q R (LvV T (plP n l)) o a w := by
  obtain ⟨A1, c1, e1, h1⟩ := h1
  refine obE_call #[.int .i64 n, lvV A1 c1 l] Try.func20 rfl rfl ho (by simp only [List.map_cons, List.map_nil]; rw [e1, hn]) hw ((plus_calls (fun k => T k ∨ R k) n A1 c1 l w (h1.mono fun k h _ => h.imp id (hR1 k)) hn1 hl).mono ?_)
  rintro e w' ⟨A, c, rfl, hl, hB⟩
  exact ⟨_, fun k => k < w'.heap.size ∧ (R k ∨ w.heap.size ≤ k), rfl, ⟨A, c, rfl, hl.mono fun k h hz => h.elim (fun h => h.elim .inl fun h => .inr ⟨hz, .inl h⟩) fun h => .inr ⟨hz, .inr h⟩⟩, Chg.of_below hB, fun k h => h.2.elim .inl fun h' => .inr ⟨h', h.1⟩⟩
theorem obE_lvLeq {l1 l2 : Lv} {O1 O2 : Nat → Prop} {T1 T2 : Nat → Prop} {x y : Operand} {ts : Array TypeId} (ho : o.op = .call { callee := .value (.func 21), args := #[x, y], argTypes := ts }) (hw : Region.wanted o (yielded ops a.tmps) = true)
    (h1 : LvV T1 l1 (a.eval x) w O1) (h2 : LvV T2 l2 (a.eval y) w O2) {bb : Bool} (he : leqP l1 l2 = bb) : OwesE Try.prog ops Q R (fun v _ _ => v = .bool bb) o a w := by
  subst he
  obtain ⟨A1, c1, e1, h1⟩ := h1.all
  obtain ⟨A2, c2, e2, h2⟩ := h2.all
  refine obE_call #[lvV A1 c1 l1, lvV A2 c2 l2] Try.func21 rfl rfl ho (by simp only [List.map_cons, List.map_nil]; rw [e1, e2]) hw ((leq_calls A1 A2 c1 c2 l1 l2 w h1 h2).mono ?_)
  rintro e w' ⟨rfl, hB⟩
  exact ⟨_, fun _ => False, rfl, rfl, Chg.of_below hB, fun k h => h.elim⟩
end

/-! ### so much more, plainly -/
theorem pl_new {n : Int} {l : Lv} (hn : 1 ≤ n) (h3 : l.kind ≠ 3) : plP n l = .mk 3 n [owP l] := plP_new (by omega) h3
theorem kind3 {l : Lv} (hg : Good l) (h3 : l.kind = 3) : ∃ m x, l = .mk 3 m [x] ∧ 1 ≤ m ∧ m ≤ 1099511627776 ∧ Good x := by
  obtain ⟨k, n, ks⟩ := l
  obtain rfl : k = 3 := h3
  rcases good_cases hg with ⟨h, _⟩ | ⟨h, _⟩ | ⟨_, x, rfl, h0, h1, hx⟩ | ⟨h, _⟩
  · omega
  · omega
  · exact ⟨n, x, rfl, h0, h1, hx⟩
  · omega
theorem pl_succ {n m : Int} {x : Lv} (hs : soundB (.mk 3 m [x]) = true) (hn : 1 ≤ n) (h0 : 1 ≤ m) (h1 : m ≤ 1099511627776) : plP n (.mk 3 m [x]) = .mk 3 (min 1099511627776 (n + m)) [cpP x] := by
  rw [plP_succ (by omega) rfl, own_eq hs, cpP, cpKs, cpKs]
  simp only [Lv.kind, Lv.num, Lv.kids]
  congr 1
  omega
theorem pl_kind {n : Int} {l : Lv} (hs : soundB l = true) (hn : 1 ≤ n) : (plP n l).kind = 3 := by
  by_cases h3 : l.kind = 3
  · obtain ⟨m, x, rfl, h0, h1, _⟩ := kind3 (good_of_sound hs) h3
    rw [pl_succ hs hn h0 h1]; rfl
  · rw [pl_new hn h3]; rfl
theorem pl_num {n : Int} {l : Lv} (hs : soundB l = true) (hn : 1 ≤ n) : 1 ≤ (plP n l).num := by
  by_cases h3 : l.kind = 3
  · obtain ⟨m, x, rfl, h0, h1, _⟩ := kind3 (good_of_sound hs) h3
    rw [pl_succ hs hn h0 h1]; simp only [Lv.num]; omega
  · rw [pl_new hn h3]; simp only [Lv.num]; omega
theorem pl_good {n : Int} {l : Lv} (hs : soundB l = true) (hn : 1 ≤ n) (hn1 : n ≤ 1099511627776) : Good (plP n l) := by
  by_cases h3 : l.kind = 3
  · obtain ⟨m, x, rfl, h0, h1, hx⟩ := kind3 (good_of_sound hs) h3
    rw [pl_succ hs hn h0 h1]; exact good_succ (by omega) (by omega) (cp_both hx).1
  · rw [pl_new hn h3]; exact good_succ hn hn1 (own_good hs)
theorem pl_sz {n : Int} {l : Lv} (hs : soundB l = true) (hn : 1 ≤ n) : sz (plP n l) = sz l + (if l.kind = 3 then 0 else 1) ∧ dp (plP n l) = dp l + (if l.kind = 3 then 0 else 1) := by
  by_cases h3 : l.kind = 3
  · obtain ⟨m, x, rfl, h0, h1, hx⟩ := kind3 (good_of_sound hs) h3
    rw [pl_succ hs hn h0 h1, if_pos h3]
    simp only [sz_mk, dp_mk, szs_cons, dps_cons, szs_nil, dps_nil, sz_cp, dp_cp]
    constructor <;> first | trivial | rfl | omega
  · rw [pl_new hn h3, if_neg h3]
    simp only [sz_mk, dp_mk, szs_cons, dps_cons, szs_nil, dps_nil, own_sz hs, own_dp hs]
    constructor <;> first | trivial | rfl | omega
theorem addN_addN {a b x : Int} (ha : 0 ≤ a) (hb : 0 ≤ b) : addN a (addN b x) = addN (a + b) x := by
  unfold addN
  by_cases hx : 0 ≤ x
  · rw [if_pos hx, if_pos hx, if_pos (by omega)]; omega
  · rw [if_neg hx, if_neg hx, if_neg hx]
theorem addN_cap {a x : Int} (ha : 0 ≤ a) : addN (min 1099511627776 a) x = addN a x := by
  unfold addN
  split <;> omega
theorem plusN_plusN {a b : Int} {f : Nf} (ha : 0 ≤ a) (hb : 0 ≤ b) (_hf : 0 ≤ f.1) : plusN a (plusN b f) = plusN (a + b) f := by
  unfold plusN
  refine Prod.ext (by simp only []; omega) ?_
  simp only [List.map_map]
  exact List.map_congr_left fun x _ => addN_addN ha hb
theorem plusN_cap {a : Int} {f : Nf} (ha : 0 ≤ a) (hf : 0 ≤ f.1) : plusN (min 1099511627776 a) f = plusN a f := by
  unfold plusN
  refine Prod.ext (by simp only []; omega) (List.map_congr_left fun x _ => addN_cap ha)
theorem pl_sum {n : Int} {l : Lv} (hs : soundB l = true) (hn : 1 ≤ n) : sumP (plP n l) = plusN n (sumP l) := by
  by_cases h3 : l.kind = 3
  · obtain ⟨m, x, rfl, h0, h1, hx⟩ := kind3 (good_of_sound hs) h3
    have hok : NfOk (ofP [] x) := ofP_ok (fun _ h => by cases h) hx
    rw [pl_succ hs hn h0 h1]
    show ofP [] _ = plusN n (ofP [] _)
    rw [ofP_succ, ofP_succ, (cp_both hx).2, plusN_cap (by omega) hok.1, plusN_plusN (by omega) (by omega) hok.1]
  · rw [pl_new hn h3]
    show ofP [] _ = _
    rw [ofP_succ]
    exact congrArg (plusN n) (own_sum hs)
theorem atP_plus (n : Int) (f : Nf) (j : Nat) : atP (plusN n f).2 j = addN n (atP f.2 j) := by
  have hl : (plusN n f).2.length = f.2.length := by simp [plusN]
  by_cases hj : j < f.2.length
  · rw [atP_get (by rw [hl]; exact hj), atP_get hj]; simp [plusN]
  · rw [atP_beyond (by omega), atP_beyond (by omega)]; rfl
theorem plus_fst (n : Int) (f : Nf) : (plusN n f).1 = min 1099511627776 (f.1 + n) := rfl
/-- Small sums: nothing is cut. -/
def Sml (f : Nf) (b : Int) : Prop := f.1 ≤ b ∧ ∀ j : Nat, atP f.2 j ≤ b
theorem sml_least {f : Nf} {b : Int} (h : Sml f b) : leastN f ≤ b := least_le h.1 h.2
mutual
theorem sml_of : (l : Lv) → Good l → litP l = true → Sml (sumP l) (sz l * 1048576) ∧ NfOk (sumP l)
  | .mk k n ks, hg, hl => by
    have hok : NfOk (sumP (.mk k n ks)) := ofP_ok (fun _ h => by cases h) hg
    refine ⟨?_, hok⟩
    rw [lit_mk, Bool.and_eq_true, Bool.or_eq_true, decide_eq_true_iff, decide_eq_true_iff] at hl
    rw [sz_mk]
    rcases good_cases hg with ⟨rfl, rfl, h0, h1⟩ | ⟨rfl, rfl, h0, h1⟩ | ⟨rfl, x, rfl, h0, h1, hx⟩ | ⟨rfl, x, y, rfl, hx, hy⟩
    · show Sml (ofP [] _) _
      rw [ofP_num, szs_nil]
      exact ⟨by simp only []; omega, fun j => by rw [atP_beyond (by simp)]; omega⟩
    · show Sml (ofP [] _) _
      rw [ofP_var, szs_nil]
      have hv : varN [] n = (0, List.replicate n.toNat (-1) ++ [0]) := by unfold varN; rw [if_neg (by simp; omega)]
      rw [hv]
      refine ⟨by simp only []; omega, fun j => ?_⟩
      by_cases hj : j < (List.replicate n.toNat (-1 : Int) ++ [0]).length
      · rw [atP_get hj]
        have := List.getElem_mem hj
        rcases List.mem_append.1 this with h | h
        · rw [List.eq_of_mem_replicate h]; omega
        · rw [List.mem_singleton.1 h]; omega
      · rw [atP_beyond (show (List.replicate n.toNat (-1 : Int) ++ [0]).length ≤ j by omega)]; omega
    · have h2 := smls_of [x] (fun y hy => (List.mem_singleton.1 hy) ▸ hx) hl.2 x (by simp)
      rw [szs_cons, szs_nil]
      show Sml (ofP [] _) _
      rw [ofP_succ]
      have e : sumP x = ofP [] x := rfl
      rw [e] at h2
      have h3 : n ≤ 1048576 := by omega
      have hp := sz_pos x
      refine ⟨by rw [plus_fst]; have := h2.1; omega, fun j => ?_⟩
      rw [atP_plus]
      have := h2.2 j
      unfold addN
      split <;> omega
    · have h2 := smls_of [x, y] (fun z hz => by rcases List.mem_cons.1 hz with rfl | hz; exact hx; exact (List.mem_singleton.1 hz) ▸ hy) hl.2
      have hx2 := h2 x (by simp)
      have hy2 := h2 y (by simp)
      rw [szs_cons, szs_cons, szs_nil]
      show Sml (ofP [] _) _
      rw [ofP_max]
      have ex : sumP x = ofP [] x := rfl
      have ey : sumP y = ofP [] y := rfl
      rw [ex] at hx2
      rw [ey] at hy2
      have hpx := sz_pos x
      have hpy := sz_pos y
      refine ⟨by rw [or_fst]; have := hx2.1; have := hy2.1; omega, fun j => ?_⟩
      rw [atP_or]
      have := hx2.2 j
      have := hy2.2 j
      omega
theorem smls_of : (ks : List Lv) → (∀ x ∈ ks, Good x) → litKs ks = true → ∀ x ∈ ks, Sml (sumP x) (sz x * 1048576)
  | [], _, _, x, hx => by cases hx
  | y :: r, hg, hl, x, hx => by
    rw [litKs, Bool.and_eq_true] at hl
    rcases List.mem_cons.1 hx with h | hx
    · rw [h]; exact (sml_of y (hg y (by simp)) hl.1).1
    · exact smls_of r (fun z hz => hg z (by simp [hz])) hl.2 x hx
end
theorem sml_sound {l : Lv} (hs : soundB l = true) (hl : litP l = true) : Sml (sumP l) 1048576000 := by
  have h := (sound_iff l).1 hs
  have h1 := (sml_of l h.1 hl).1
  have h2 := h.2.1
  exact ⟨by have := h1.1; omega, fun j => by have := h1.2 j; omega⟩
end Go.Proofs.Ytjlhbaohippidaa
