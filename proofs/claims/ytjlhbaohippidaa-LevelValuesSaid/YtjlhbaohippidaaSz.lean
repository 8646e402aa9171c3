/-
  Sound levels, plainly: good, of at most 1000 nodes, at most 256 deep; the sums of copies and of the greater one of two.
-/
import Derived.Test.YtjlhbaohippidaaNfN
namespace Go.Proofs.Ytjlhbaohippidaa
open Go.RowKit Go.Proofs.YtjlhbaohippidaaW.PrintWords

mutual
def sz : Lv → Nat
  | .mk _ _ ks => szs ks + 1
def szs : List Lv → Nat
  | [] => 0
  | x :: r => sz x + szs r
end
mutual
def dp : Lv → Nat
  | .mk _ _ ks => dps ks + 1
def dps : List Lv → Nat
  | [] => 0
  | x :: r => max (dp x) (dps r)
end
theorem sz_mk (k n : Int) (ks : List Lv) : sz (.mk k n ks) = szs ks + 1 := by rw [sz]
theorem dp_mk (k n : Int) (ks : List Lv) : dp (.mk k n ks) = dps ks + 1 := by rw [dp]
theorem szs_cons (x : Lv) (r : List Lv) : szs (x :: r) = sz x + szs r := by rw [szs]
theorem dps_cons (x : Lv) (r : List Lv) : dps (x :: r) = max (dp x) (dps r) := by rw [dps]
theorem szs_nil : szs [] = 0 := by rw [szs]
theorem dps_nil : dps [] = 0 := by rw [dps]
theorem sz_pos (l : Lv) : 1 ≤ sz l := by cases l; rw [sz_mk]; omega
theorem dp_pos (l : Lv) : 1 ≤ dp l := by cases l; rw [dp_mk]; omega
mutual
theorem walk_ok : (l : Lv) → (d s : Nat) → Good l → s + sz l ≤ 1000 → d + dp l ≤ 257 → walkP sndF l d s = (0, ((s + sz l : Nat) : Int))
  | .mk k n ks, d, s, hg, hs, hd => by
    cases hg with
    | mk h hk =>
      rw [sz_mk] at hs ⊢
      rw [dp_mk] at hd
      have hf : sndF (.mk k n ks) d s = (0, (s : Int) + 1) := sndF_ok (by rw [h]; simp; omega)
      rw [walkP_go (by rw [hf]), hf]
      have := walks_ok ks (d + 1) (s + 1) hk (by omega) (by omega) (by omega)
      simp only [Lv.kids]
      rw [show ((d : Int) + 1) = ((d + 1 : Nat) : Int) by omega, show ((s : Int) + 1) = ((s + 1 : Nat) : Int) by omega, this]
      congr 2; omega
theorem walks_ok : (ks : List Lv) → (d s : Nat) → (∀ x ∈ ks, Good x) → s + szs ks ≤ 1000 → d + dps ks ≤ 257 → d ≤ 257 → walkKs sndF ks d s = (0, ((s + szs ks : Nat) : Int))
  | [], d, s, _, _, _, _ => by rw [walkKs, szs_nil]; rfl
  | x :: r, d, s, hg, hs, hd, _ => by
    rw [szs_cons] at hs ⊢
    rw [dps_cons] at hd
    have h1 := walk_ok x d s (hg x (by simp)) (by omega) (by omega)
    rw [walkKs_go (by rw [h1]), h1]
    have := walks_ok r d (s + sz x) (fun y hy => hg y (by simp [hy])) (by omega) (by omega) (by omega)
    rw [this]
    congr 2; omega
end
mutual
theorem walk_back : (l : Lv) → (d s : Nat) → (walkP sndF l d s).1 = 0 → (walkP sndF l d s).2 = ((s + sz l : Nat) : Int) ∧ s + sz l ≤ 1000 ∧ d + dp l ≤ 257
  | .mk k n ks, d, s, h => by
    by_cases h1 : (sndF (.mk k n ks) d s).1 = 0
    · have h2 := sndF_small' (by omega) h1
      rw [walkP_go h1] at h ⊢
      rw [h2.2.2.2] at h ⊢
      simp only [Lv.kids] at h ⊢
      rw [show ((d : Int) + 1) = ((d + 1 : Nat) : Int) by omega, show ((s : Int) + 1) = ((s + 1 : Nat) : Int) by omega] at h ⊢
      have := walks_back ks (d + 1) (s + 1) (by omega) (by omega) h
      rw [sz_mk, dp_mk]
      refine ⟨?_, by omega, by omega⟩
      rw [this.1]; congr 1; omega
    · rw [walkP_stop h1] at h; exact absurd h h1
theorem walks_back : (ks : List Lv) → (d s : Nat) → s ≤ 1000 → d ≤ 257 → (walkKs sndF ks d s).1 = 0 → (walkKs sndF ks d s).2 = ((s + szs ks : Nat) : Int) ∧ s + szs ks ≤ 1000 ∧ d + dps ks ≤ 257
  | [], d, s, h0, h1, _ => by rw [walkKs, szs_nil, dps_nil]; exact ⟨rfl, by omega, by omega⟩
  | x :: r, d, s, h0, h1, h => by
    by_cases h2 : (walkP sndF x d s).1 = 0
    · have h3 := walk_back x d s h2
      rw [walkKs_go h2] at h ⊢
      rw [h3.1] at h ⊢
      have h4 := walks_back r d (s + sz x) h3.2.1 h1 h
      rw [szs_cons, dps_cons]
      refine ⟨?_, by omega, by omega⟩
      rw [h4.1]; congr 1; omega
    · rw [walkKs_stop h2] at h; exact absurd h h2
end
theorem sound_iff (l : Lv) : soundB l = true ↔ Good l ∧ sz l ≤ 1000 ∧ dp l ≤ 256 := by
  constructor
  · intro h
    have h1 : (walkP sndF l (1 : Nat) (0 : Nat)).1 = 0 := by simpa [soundB] using h
    have := walk_back l 1 0 h1
    exact ⟨good_of_sound h, by omega, by omega⟩
  · rintro ⟨hg, hs, hd⟩
    have := walk_ok l 1 0 hg (by omega) (by omega)
    unfold soundB
    have e : walkP sndF l 1 0 = _ := this
    rw [e]; rfl

/-! ### copies -/
mutual
theorem sz_cp : (l : Lv) → sz (cpP l) = sz l
  | .mk k n ks => by rw [cpP, sz_mk, sz_mk, szs_cp ks]
theorem szs_cp : (ks : List Lv) → szs (cpKs ks) = szs ks
  | [] => by rw [cpKs]
  | x :: r => by rw [cpKs, szs_cons, szs_cons, sz_cp x, szs_cp r]
end
mutual
theorem dp_cp : (l : Lv) → dp (cpP l) = dp l
  | .mk k n ks => by rw [cpP, dp_mk, dp_mk, dps_cp ks]
theorem dps_cp : (ks : List Lv) → dps (cpKs ks) = dps ks
  | [] => by rw [cpKs]
  | x :: r => by rw [cpKs, dps_cons, dps_cons, dp_cp x, dps_cp r]
end
theorem good_num {n : Int} (h0 : 0 ≤ n) (h1 : n ≤ 1099511627776) : Good (.mk 1 n []) := .mk (by rw [right_num (by simp [arityP])]; simp; omega) (fun x hx => by cases hx)
theorem good_var {n : Int} (h0 : 0 ≤ n) (h1 : n ≤ 1000) : Good (.mk 2 n []) := .mk (by unfold rightP; rw [if_neg (by simp [Lv.kids, Lv.kind, arityP]), if_neg (by simp [Lv.kind]), if_neg (by simp [Lv.kind]), if_pos (by rfl)]; exact decide_eq_true ⟨h0, h1⟩) (fun x hx => by cases hx)
theorem good_succ {n : Int} {x : Lv} (h0 : 1 ≤ n) (h1 : n ≤ 1099511627776) (h : Good x) : Good (.mk 3 n [x]) := .mk (by rw [right_succ (by simp [arityP])]; simp; omega) (fun y hy => (show x = y by simpa using (List.mem_singleton.1 hy).symm) ▸ h)
theorem good_max {n : Int} {x y : Lv} (hx : Good x) (hy : Good y) : Good (.mk 4 n [x, y]) := .mk (by unfold rightP; simp [Lv.kids, Lv.kind, Lv.num, arityP]) (fun z hz => by
  rcases List.mem_cons.1 hz with rfl | hz
  · exact hx
  · obtain rfl : z = y := by simpa using hz
    exact hy)
theorem cp_both : ∀ {l : Lv}, Good l → Good (cpP l) ∧ ∀ fs, ofP fs (cpP l) = ofP fs l := by
  intro l h
  induction h with
  | @mk k n ks h hk ih =>
    rcases good_cases (.mk h hk) with ⟨rfl, rfl, h0, h1⟩ | ⟨rfl, rfl, h0, h1⟩ | ⟨rfl, x, rfl, h0, h1, -⟩ | ⟨rfl, x, y, rfl, -, -⟩
    · rw [cpP, cpKs, if_neg (by decide)]; exact ⟨good_num h0 h1, fun fs => rfl⟩
    · rw [cpP, cpKs, if_neg (by decide)]; exact ⟨good_var h0 h1, fun fs => rfl⟩
    · rw [cpP, cpKs, cpKs, if_neg (by decide)]
      have := ih x (by simp)
      exact ⟨good_succ h0 h1 this.1, fun fs => by rw [ofP_succ, ofP_succ, this.2]⟩
    · rw [cpP, cpKs, cpKs, cpKs, if_pos rfl]
      have hx := ih x (by simp)
      have hy := ih y (by simp)
      exact ⟨good_max hx.1 hy.1, fun fs => by rw [ofP_max, ofP_max, hx.2, hy.2]⟩
theorem own_eq {l : Lv} (h : soundB l = true) : owP l = cpP l := owP_sound h
theorem own_good {l : Lv} (h : soundB l = true) : Good (owP l) := by rw [own_eq h]; exact (cp_both (good_of_sound h)).1
theorem own_sum {l : Lv} (h : soundB l = true) : sumP (owP l) = sumP l := by rw [own_eq h]; exact (cp_both (good_of_sound h)).2 []
theorem own_sz {l : Lv} (h : soundB l = true) : sz (owP l) = sz l := by rw [own_eq h]; exact sz_cp l
theorem own_dp {l : Lv} (h : soundB l = true) : dp (owP l) = dp l := by rw [own_eq h]; exact dp_cp l
theorem own_sound {l : Lv} (h : soundB l = true) : soundB (owP l) = true := by
  rw [sound_iff, own_sz h, own_dp h]
  exact ⟨own_good h, ((sound_iff l).1 h).2⟩

/-! ### the greater one of two -/
theorem mx_sz {a b : Lv} (ha : soundB a = true) (hb : soundB b = true) : sz (mxP a b) = sz a + sz b + 1 := by unfold mxP; rw [sz_mk, szs_cons, szs_cons, szs_nil, own_sz ha, own_sz hb]; omega
theorem mx_dp {a b : Lv} (ha : soundB a = true) (hb : soundB b = true) : dp (mxP a b) = max (dp a) (dp b) + 1 := by unfold mxP; rw [dp_mk, dps_cons, dps_cons, dps_nil, own_dp ha, own_dp hb]; omega
theorem mx_sound {a b : Lv} (ha : soundB a = true) (hb : soundB b = true) : soundB (mxP a b) = true ↔ sz a + sz b + 1 ≤ 1000 ∧ max (dp a) (dp b) + 1 ≤ 256 := by
  rw [sound_iff, mx_sz ha hb, mx_dp ha hb]
  exact ⟨fun h => h.2, fun h => ⟨good_max (own_good ha) (own_good hb), h⟩⟩
theorem mx_sum {a b : Lv} (ha : soundB a = true) (hb : soundB b = true) : sumP (mxP a b) = orN (sumP a) (sumP b) := by
  unfold mxP
  show ofP [] _ = _
  rw [ofP_max]
  exact congr (congrArg orN (own_sum ha)) (own_sum hb)

/-! ### sums -/
theorem atP_or (f h : Nf) (j : Nat) : atP (orN f h).2 j = max (atP f.2 j) (atP h.2 j) := by
  have hl : (orN f h).2.length = max f.2.length h.2.length := by simp [orN]
  by_cases hj : j < max f.2.length h.2.length
  · rw [atP_in (by rw [hl]; omega), rd_nat', List.getD_eq_getElem?_getD]
    simp [orN, hj]
  · rw [atP_out (by rw [hl]; omega), atP_out (by omega), atP_out (by omega)]; rfl
theorem nf_ext {f h : Nf} (h1 : f.1 = h.1) (hl : f.2.length = h.2.length) (ha : ∀ j : Nat, atP f.2 j = atP h.2 j) : f = h := by
  refine Prod.ext h1 (List.ext_getElem hl fun j hj hj' => ?_)
  have := ha j
  rw [atP_in (by omega), atP_in (by omega), rd_nat', rd_nat', List.getD_eq_getElem?_getD, List.getD_eq_getElem?_getD, List.getElem?_eq_getElem hj, List.getElem?_eq_getElem hj'] at this
  exact this
theorem or_len (f h : Nf) : (orN f h).2.length = max f.2.length h.2.length := by simp [orN]
theorem or_fst (f h : Nf) : (orN f h).1 = max f.1 h.1 := rfl
theorem or_comm (f h : Nf) : orN f h = orN h f := nf_ext (by rw [or_fst, or_fst]; omega) (by rw [or_len, or_len]; omega) fun j => by rw [atP_or, atP_or]; omega
theorem or_assoc (f h k : Nf) : orN (orN f h) k = orN f (orN h k) := nf_ext (by simp only [or_fst]; omega) (by simp only [or_len]; omega) fun j => by simp only [atP_or]; omega
theorem or_self (f : Nf) : orN f f = f := nf_ext (by rw [or_fst]; omega) (by rw [or_len]; omega) fun j => by rw [atP_or]; omega
end Go.Proofs.Ytjlhbaohippidaa
