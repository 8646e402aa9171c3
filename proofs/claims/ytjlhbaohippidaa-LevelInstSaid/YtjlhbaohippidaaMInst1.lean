/-
  Merged: MeansP, InstP, Inst, InR, InW, InU, InV, VlR, ValR, PutsP, RefP, RfT, RfPl, RfBo, RfNR, RfN, RfL.
-/
import Derived.Test.YtjlhbaohippidaaMGoesOn3
/-! MeansP -/
namespace Go.Proofs.Ytjlhbaohippidaa
open Go.RowKit Go.Proofs.YtjlhbaohippidaaW.PrintWords Go.RegionInvYtjlhbaohippidaa Go.RegionEYtjlhbaohippidaa

theorem val_ge {vs : List Int} {f : Nf} (h0 : NfOk f) : leastN f ≤ valN vs f := by
  have h := (valN_le (vs := vs) (f := f) (b := valN vs f)).1 (Int.le_refl _)
  refine least_le h.1 fun j => ?_
  by_cases h1 : 0 ≤ atP f.2 j
  · have h2 := h.2 j h1
    have h3 := vAt_in vs j
    have h4 := (atP_ok h0.2.2.1 j).2
    omega
  · have := h.1; have := h0.1; omega
theorem val_mono {vs : List Int} {f g : Nf} (hg : NfOk g) (h : leqR f g) : valN vs f ≤ valN vs g := by
  have h1 := (valN_le (vs := vs) (f := g) (b := valN vs g)).1 (Int.le_refl _)
  refine valN_le.2 ⟨Int.le_trans h.2 (val_ge hg), fun i hi => ?_⟩
  have h2 := h.1 i
  have h3 := h1.2 i (by omega)
  omega
theorem val_eqR {vs : List Int} {f g : Nf} (hf : NfOk f) (hg : NfOk g) (h : eqR f g) : valN vs f = valN vs g := by
  have := (eqR_leqR hf hg).1 h
  exact Int.le_antisymm (val_mono hg this.1) (val_mono hf this.2)
theorem means_leq {vs : List Int} {a b : Lv} (ha : soundB a = true) (hb : soundB b = true) (h : leqP a b = true) : valB vs a ≤ valB vs b := by
  rw [valB_yes ha, valB_yes hb]; exact val_mono (sumP_ok hb) ((leqP_iff ha hb).1 h)
theorem means_eq {vs : List Int} {a b : Lv} (ha : soundB a = true) (hb : soundB b = true) (h : eqP a b = true) : valB vs a = valB vs b := by
  rw [valB_yes ha, valB_yes hb]; exact val_eqR (sumP_ok ha) (sumP_ok hb) ((eqP_iff ha hb).1 h)
theorem eqP_leq {a b : Lv} (ha : soundB a = true) (hb : soundB b = true) (h : eqP a b = true) : leqP a b = true :=
  (leqP_iff ha hb).2 ((eqR_leqR (sumP_ok ha) (sumP_ok hb)).1 ((eqP_iff ha hb).1 h)).1
theorem means_red {vs : List Int} {a : Lv} (ha : soundB a = true) (hr : soundB (redP a) = true) : valB vs (redP a) = valB vs a := by
  rw [valB_yes ha, valB_yes hr]; exact val_eqR (sumP_ok hr) (sumP_ok ha) (red_sum ha)
def greatL (n : Nat) (i : Int) : List Int := if i < 0 then List.replicate n 0 else (List.replicate n 0).set i.toNat 34359738368
theorem great_len (n : Nat) (i : Int) : (greatL n i).length = n := by unfold greatL; split <;> simp
theorem great_at (n : Nat) (i : Int) (j : Nat) : vAt (greatL n i) j = if (j : Int) = i ∧ j < n then 34359738368 else 0 := by
  unfold vAt
  rw [great_len]
  by_cases hj : j < n
  · rw [if_pos hj, rd_nat']
    unfold greatL
    by_cases hi : i < 0
    · rw [if_pos hi, if_neg (by omega), List.getD_eq_getElem?_getD, List.getElem?_replicate, if_pos hj]; decide
    · rw [if_neg hi, List.getD_eq_getElem?_getD, List.getElem?_set]
      by_cases he : i.toNat = j
      · rw [if_pos he, if_pos (by simpa using (by omega : i.toNat < n)), if_pos ⟨by omega, hj⟩]; decide
      · rw [if_neg he, if_neg (by omega), List.getElem?_replicate, if_pos hj]; decide
  · rw [if_neg hj, if_neg (by omega)]
theorem means_not {a b : Lv} (ha : soundB a = true) (hb : soundB b = true) (hla : litP a = true) (hlb : litP b = true) (h : leqP a b = false) :
    ∃ i : Int, -1 ≤ i ∧ i < (nfP a).2.length ∧ valB (greatL (nfP a).2.length i) b < valB (greatL (nfP a).2.length i) a := by
  have hf := sumP_ok ha
  have hg := sumP_ok hb
  have sf := sml_sound ha hla
  have sg := sml_sound hb hlb
  rw [nfP_sound ha]
  have hn : ¬ leqR (sumP a) (sumP b) := fun h' => by rw [(leqP_iff ha hb).2 h'] at h; cases h
  obtain ⟨n, hnn⟩ : ∃ n, n = (shortN (sumP a)).2.length := ⟨_, rfl⟩
  rw [← hnn]
  simp only [valB_yes ha, valB_yes hb]
  by_cases hj : ∃ j : Nat, atP (sumP b).2 j < atP (sumP a).2 j
  · obtain ⟨j, hj⟩ := hj
    have hb0 := atP_ge hg j
    have hlt : j < n := by
      by_cases hlt : j < n
      · exact hlt
      · exfalso
        have e := atP_short hf j
        rw [atP_beyond (by omega)] at e
        omega
    refine ⟨j, by omega, by omega, ?_⟩
    have h1 := (valN_le (vs := greatL n j) (f := sumP a) (b := valN (greatL n j) (sumP a))).1 (Int.le_refl _)
    have h2 := h1.2 j (by omega)
    rw [great_at, if_pos ⟨rfl, hlt⟩] at h2
    have h3 := sf.2 j
    have h4 : valN (greatL n j) (sumP b) ≤ 34359738368 + atP (sumP a).2 j - 1 := by
      refine valN_le.2 ⟨by have := sg.1; omega, fun i hi => ?_⟩
      rw [great_at]
      by_cases e : (i : Int) = j ∧ i < n
      · rw [if_pos e]
        obtain rfl : i = j := by omega
        omega
      · rw [if_neg e]
        have := sg.2 i
        omega
    omega
  · have hc : leastN (sumP b) < (sumP a).1 := by
      by_cases hc : leastN (sumP b) < (sumP a).1
      · exact hc
      · exfalso
        apply hn
        refine ⟨fun j => ?_, by omega⟩
        by_cases h1 : atP (sumP a).2 j ≤ atP (sumP b).2 j
        · exact h1
        · exact absurd ⟨j, by omega⟩ hj
    refine ⟨-1, by omega, by omega, ?_⟩
    have h1 := (valN_le (vs := greatL n (-1)) (f := sumP a) (b := valN (greatL n (-1)) (sumP a))).1 (Int.le_refl _)
    have h0 := least_ge (sumP b)
    have hb0 := hg.1
    have h2 : valN (greatL n (-1)) (sumP b) ≤ leastN (sumP b) := by
      refine valN_le.2 ⟨h0, fun i hi => ?_⟩
      rw [great_at, if_neg (by omega)]
      have := least_at (f := sumP b) i (by omega)
      omega
    have := h1.1
    omega
/-- The walk's end: not at most, and yet at no values more. -/
theorem means_end {a b : Lv} (ha : soundB a = true) (hb : soundB b = true) (hla : litP a = true) (hlb : litP b = true) (h : leqP a b = false)
    (hall : ∀ i : Int, -1 ≤ i → i < (nfP a).2.length → valB (greatL (nfP a).2.length i) a ≤ valB (greatL (nfP a).2.length i) b) : False := by
  obtain ⟨i, h0, h1, h2⟩ := means_not ha hb hla hlb h
  have := hall i h0 h1
  omega
end Go.Proofs.Ytjlhbaohippidaa

/-! InstP -/
namespace Go.Proofs.Ytjlhbaohippidaa
open Go.RowKit Go.Proofs.YtjlhbaohippidaaW.PrintWords Go.RegionInvYtjlhbaohippidaa Go.RegionEYtjlhbaohippidaa

def lvAt (vs : List Lv) (n : Int) : Lv := vs.getD n.toNat (.mk 0 0 [])
/-- What the visit of a node does: the sum of what stands for it is laid by. -/
def instF (vs : List Lv) (k n : Int) (fs : List Nf) : Int × List Nf :=
  if k = 2 ∧ n < vs.length then (if soundB (lvAt vs n) = true then (0, fs.set n.toNat (sumP (lvAt vs n))) else (1, fs)) else (0, fs)
mutual
def instP (vs : List Lv) : Lv → List Nf → Int × List Nf
  | .mk k n ks, fs => if (instF vs k n fs).1 ≠ 0 then instF vs k n fs else instKs vs ks (instF vs k n fs).2
def instKs (vs : List Lv) : List Lv → List Nf → Int × List Nf
  | [], fs => (0, fs)
  | x :: r, fs => if (instP vs x fs).1 ≠ 0 then instP vs x fs else instKs vs r (instP vs x fs).2
end
theorem instP_stop {vs : List Lv} {k n : Int} {ks : List Lv} {fs : List Nf} (h : (instF vs k n fs).1 ≠ 0) : instP vs (.mk k n ks) fs = instF vs k n fs := by rw [instP, if_pos h]
theorem instP_go {vs : List Lv} {k n : Int} {ks : List Lv} {fs : List Nf} (h : (instF vs k n fs).1 = 0) : instP vs (.mk k n ks) fs = instKs vs ks (instF vs k n fs).2 := by rw [instP, if_neg (by simpa using h)]
theorem instKs_stop {vs : List Lv} {x : Lv} {r : List Lv} {fs : List Nf} (h : (instP vs x fs).1 ≠ 0) : instKs vs (x :: r) fs = instP vs x fs := by rw [instKs, if_pos h]
theorem instKs_go {vs : List Lv} {x : Lv} {r : List Lv} {fs : List Nf} (h : (instP vs x fs).1 = 0) : instKs vs (x :: r) fs = instKs vs r (instP vs x fs).2 := by rw [instKs, if_neg (by simpa using h)]
theorem instKs_nil (vs : List Lv) (fs : List Nf) : instKs vs [] fs = (0, fs) := by rw [instKs]
theorem instF_len (vs : List Lv) (k n : Int) (fs : List Nf) : (instF vs k n fs).2.length = fs.length := by
  unfold instF; split
  · split <;> simp
  · rfl
mutual
theorem inst_len (vs : List Lv) : (l : Lv) → (fs : List Nf) → (instP vs l fs).2.length = fs.length
  | .mk k n ks, fs => by
    rw [instP]; split
    · exact instF_len _ _ _ _
    · rw [insts_len vs ks, instF_len]
theorem insts_len (vs : List Lv) : (ks : List Lv) → (fs : List Nf) → (instKs vs ks fs).2.length = fs.length
  | [], fs => by rw [instKs]
  | x :: r, fs => by
    rw [instKs]; split
    · exact inst_len vs x fs
    · rw [insts_len vs r, inst_len vs x]
end
/-- What is laid by stays. -/
def Kept (vs : List Lv) (fs fs' : List Nf) : Prop := fs'.length = fs.length ∧ ∀ i : Nat, i < vs.length → fs[i]? = some (sumP (lvAt vs i)) → fs'[i]? = some (sumP (lvAt vs i))
theorem Kept.trans {vs : List Lv} {a b c : List Nf} (h1 : Kept vs a b) (h2 : Kept vs b c) : Kept vs a c := ⟨h2.1.trans h1.1, fun i hi h => h2.2 i hi (h1.2 i hi h)⟩
theorem instF_kept (vs : List Lv) (k n : Int) (fs : List Nf) : Kept vs fs (instF vs k n fs).2 := by
  refine ⟨instF_len _ _ _ _, fun i hi h => ?_⟩
  unfold instF
  split
  · split
    · rw [List.getElem?_set]
      split
      · rename_i h1 h2 h3
        have hlt := (List.getElem?_eq_some_iff.1 h).1
        rw [h3, if_pos hlt]
        have : lvAt vs n = lvAt vs i := by unfold lvAt; rw [h3, Int.toNat_natCast]
        rw [this]
      · exact h
    · exact h
  · exact h
mutual
theorem inst_kept (vs : List Lv) : (l : Lv) → (fs : List Nf) → Kept vs fs (instP vs l fs).2
  | .mk k n ks, fs => by
    rw [instP]; split
    · exact instF_kept _ _ _ _
    · exact (instF_kept vs k n fs).trans (insts_kept vs ks _)
theorem insts_kept (vs : List Lv) : (ks : List Lv) → (fs : List Nf) → Kept vs fs (instKs vs ks fs).2
  | [], fs => by rw [instKs]; exact ⟨rfl, fun _ _ h => h⟩
  | x :: r, fs => by
    rw [instKs]; split
    · exact inst_kept vs x fs
    · exact (inst_kept vs x fs).trans (insts_kept vs r _)
end
/-- All that stands for a variable of the level, in place. -/
theorem inst_sum {vs : List Lv} : ∀ {l : Lv}, Good l → ∀ (fs fs' : List Nf), fs.length = vs.length → (instP vs l fs).1 = 0 → Kept vs (instP vs l fs).2 fs' → ofP fs' l = ofP (vs.map sumP) l := by
  intro l h
  induction h with
  | @mk k n ks h hk ih =>
    intro fs fs' hl h0 hkp
    by_cases hF : (instF vs k n fs).1 = 0
    · rw [instP_go hF] at h0 hkp
      have hl2 : (instF vs k n fs).2.length = vs.length := by rw [instF_len, hl]
      rcases good_cases (.mk h hk) with ⟨rfl, rfl, h1, h2⟩ | ⟨rfl, rfl, h1, h2⟩ | ⟨rfl, x, rfl, h1, h2, -⟩ | ⟨rfl, x, y, rfl, -, -⟩
      · rw [ofP_num, ofP_num]
      · rw [ofP_var, ofP_var]
        rw [instKs_nil] at hkp
        have hlen : fs'.length = vs.length := by rw [hkp.1, hl2]
        unfold varN
        rw [hlen, List.length_map]
        split
        · rename_i hlt
          have hn : n.toNat < vs.length := by omega
          have hset : (instF vs 2 n fs).2[n.toNat]? = some (sumP (lvAt vs (n.toNat : Nat))) := by
            unfold instF at hF ⊢
            rw [if_pos ⟨rfl, hlt⟩] at hF ⊢
            by_cases hs : soundB (lvAt vs n) = true
            · rw [if_pos hs]
              simp only [List.getElem?_set]
              rw [if_pos trivial, if_pos (by omega)]
              have : lvAt vs n = lvAt vs (n.toNat : Nat) := by unfold lvAt; rw [Int.toNat_natCast]
              rw [this]
            · rw [if_neg hs] at hF; exact absurd (show (1 : Int) = 0 from hF) (by decide)
          have := hkp.2 n.toNat hn hset
          rw [List.getD_eq_getElem?_getD, this, List.getD_eq_getElem?_getD, List.getElem?_map, List.getElem?_eq_getElem hn]
          simp only [Option.map_some, Option.getD_some, lvAt, Int.toNat_natCast]
          rw [List.getD_eq_getElem?_getD, List.getElem?_eq_getElem hn]; rfl
        · rfl
      · rw [ofP_succ, ofP_succ]
        rw [instKs] at h0 hkp
        by_cases hx : (instP vs x (instF vs 3 n fs).2).1 = 0
        · rw [if_neg (by simpa using hx), instKs_nil] at h0 hkp
          rw [ih x (by simp) _ fs' hl2 hx hkp]
        · rw [if_pos hx] at h0; exact absurd h0 hx
      · rw [ofP_max, ofP_max]
        rw [instKs] at h0 hkp
        by_cases hx : (instP vs x (instF vs 4 n fs).2).1 = 0
        · rw [if_neg (by simpa using hx), instKs] at h0 hkp
          have hl3 : (instP vs x (instF vs 4 n fs).2).2.length = vs.length := by rw [inst_len, hl2]
          by_cases hy : (instP vs y (instP vs x (instF vs 4 n fs).2).2).1 = 0
          · rw [if_neg (by simpa using hy), instKs_nil] at h0 hkp
            rw [ih x (by simp) _ fs' hl2 hx ((inst_kept vs y _).trans hkp), ih y (by simp) _ fs' hl3 hy hkp]
          · rw [if_pos hy] at h0; exact absurd h0 hy
        · rw [if_pos hx] at h0; exact absurd h0 hx
    · rw [instP_stop hF] at h0; exact absurd h0 hF
/-- What Inst gives. -/
def instL (vs : List Lv) (l : Lv) : Lv := if soundB l = true ∧ (instP vs l (List.replicate vs.length (0, []))).1 = 0 then lvlN (shortN (ofP (vs.map sumP) l)) else .mk 0 0 []
theorem valN_map {vs : List Lv} {at_ : List Int} {inner : List Int} (hs : ∀ u ∈ vs, soundB u = true)
    (hin : ∀ i : Nat, vAt inner i = if i < vs.length then valB at_ (lvAt vs i) else vAt at_ i) : ∀ {l : Lv}, Good l → valN at_ (ofP (vs.map sumP) l) = valR inner l := by
  have hok : ∀ f ∈ vs.map sumP, NfOk f := fun f hf => by obtain ⟨u, hu, rfl⟩ := List.mem_map.1 hf; exact sumP_ok (hs u hu)
  intro l h
  induction h with
  | @mk k n ks h hk ih =>
    rcases good_cases (.mk h hk) with ⟨rfl, rfl, h0, h1⟩ | ⟨rfl, rfl, h0, h1⟩ | ⟨rfl, x, rfl, h0, h1, hx⟩ | ⟨rfl, x, y, rfl, -, -⟩
    · rw [valR_num, ofP_num]; rfl
    · rw [valR_var, hin n.toNat, ofP_var]
      by_cases hlt : n < vs.length
      · have hn : n.toNat < vs.length := by omega
        have hu : soundB (lvAt vs (n.toNat : Nat)) = true := by
          unfold lvAt
          rw [Int.toNat_natCast, List.getD_eq_getElem?_getD, List.getElem?_eq_getElem hn]
          exact hs _ (List.getElem_mem _)
        rw [if_pos hn, valB_yes hu]
        unfold varN
        rw [if_pos (by simpa using hlt), List.getD_eq_getElem?_getD, List.getElem?_map, List.getElem?_eq_getElem hn]
        unfold lvAt
        rw [Int.toNat_natCast, List.getD_eq_getElem?_getD, List.getElem?_eq_getElem hn]; rfl
      · rw [if_neg (by omega)]
        have hv : varN (vs.map sumP) n = sumP (.mk 2 n []) := by
          unfold varN
          rw [if_neg (by simpa using hlt)]
          show _ = ofP [] _
          rw [ofP_var]
          unfold varN
          rw [if_neg (by simp; omega)]
        rw [hv, valN_sum at_ (.mk h hk), valR_var]
    · rw [valR_succ, ofP_succ, valN_plus at_ (ofP_ok hok hx) (by omega), ih x (by simp)]
    · rw [valR_max, ofP_max, valN_or, ih x (by simp), ih y (by simp)]
end Go.Proofs.Ytjlhbaohippidaa

/-! Inst -/
namespace Go.Proofs.Ytjlhbaohippidaa
open Go.RowKit Go.Proofs.YtjlhbaohippidaaW.PrintWords Go.RegionInvYtjlhbaohippidaa Go.RegionEYtjlhbaohippidaa

/-- The row of sums in block G, their numbers in blocks of S. -/
def InAt (w : World) (S : Nat → Prop) (G : Nat) (fs : List Nf) : Prop :=
  ∃ cs : Array Value, w.heap[G]? = some (.cells cs 52 (0, 0)) ∧ cs.size = fs.length * 2 ∧
    ∀ (i : Nat) (f : Nf), fs[i]? = some f → ∃ A' c', cs[i * 2]? = some (.int .i64 f.1) ∧ cs[i * 2 + 1]? = some (.slice A' f.2.length c') ∧ f.2.length ≤ c' ∧ IntsS w S A' f.2.length f.2
theorem InAt.same {w w' : World} {S : Nat → Prop} {G : Nat} {fs : List Nf} (h : InAt w S G fs) (hG : w'.heap[G]? = w.heap[G]?) (hs : ∀ k, S k → k < w.heap.size → w'.heap[k]? = w.heap[k]?) : InAt w' S G fs := by
  obtain ⟨cs, h1, h2, h3⟩ := h
  refine ⟨cs, hG.trans h1, h2, fun i f hf => ?_⟩
  obtain ⟨A', c', e1, e2, e3, e4⟩ := h3 i f hf
  exact ⟨A', c', e1, e2, e3, e4.same hs⟩
theorem InAt.mono {w : World} {S S' : Nat → Prop} {G : Nat} {fs : List Nf} (h : InAt w S G fs) (hs : ∀ k, S k → k < w.heap.size → S' k) : InAt w S' G fs := by
  obtain ⟨cs, h1, h2, h3⟩ := h
  refine ⟨cs, h1, h2, fun i f hf => ?_⟩
  obtain ⟨A', c', e1, e2, e3, e4⟩ := h3 i f hf
  exact ⟨A', c', e1, e2, e3, e4.mono hs⟩
theorem InAt.nfs {w : World} {S : Nat → Prop} {G : Nat} {fs : List Nf} (h : InAt w S G fs) : NfsS w (fun k => k = G ∨ S k) (some ⟨G, 0, none⟩) fs := by
  obtain ⟨cs, h1, h2, h3⟩ := h
  intro i f hf
  obtain ⟨A', c', e1, e2, e3, e4⟩ := h3 i f hf
  have hc : ∀ (j : Nat) (v : Value), cs[j]? = some v → w.cell? ⟨G, j, none⟩ = some v := fun j v hv => by rw [cell_of_row _ _ _ _ _ _ h1]; exact hv
  exact ⟨G, 0, A', c', rfl, .inl rfl, by rw [Nat.zero_add]; exact hc _ _ e1, by rw [Nat.zero_add]; exact hc _ _ e2, e3, e4.mono fun b hb _ => .inr hb⟩
theorem InAt.lt {w : World} {S : Nat → Prop} {G : Nat} {fs : List Nf} (h : InAt w S G fs) : G < w.heap.size := by
  obtain ⟨cs, h1, -⟩ := h
  exact blk_lt h1
theorem InAt.cells {w : World} {S : Nat → Prop} {G : Nat} {fs : List Nf} (h : InAt w S G fs) {n : Nat} (hn : n < fs.length) : ∃ x A' m' c', w.cell? ⟨G, n * 2, none⟩ = some (.int .i64 x) ∧ w.cell? ⟨G, n * 2 + 1, none⟩ = some (.slice A' m' c') ∧ w.frozen? ⟨G, n * 2, none⟩ = false ∧ w.frozen? ⟨G, n * 2 + 1, none⟩ = false := by
  obtain ⟨cs, h1, h2, h3⟩ := h
  obtain ⟨A', c', e1, e2, e3, e4⟩ := h3 n _ (List.getElem?_eq_getElem hn)
  exact ⟨_, A', _, c', by rw [cell_of_row _ _ _ _ _ _ h1]; exact e1, by rw [cell_of_row _ _ _ _ _ _ h1]; exact e2, blk_frozen h1 _, blk_frozen h1 _⟩
theorem chg_pair (w : World) (g i j : Nat) (a b : Value) : Chg (fun k => k = g) w ((w.setCell ⟨g, i, none⟩ a).setCell ⟨g, j, none⟩ b) := chg_trans (chg_set _ _ _ _) (chg_set _ _ _ _)
theorem fix_in {w0 : World} {G k : Nat} (hk : G < k ∧ k < w0.heap.size) : Fix w0 (est2 10 0 (fun k => k = G) (fun _ => False)) k := est2_fix hk.2 (fun h => by have h : k = G := h; omega) (fun h => h)
/-- Sum n is laid by. -/
theorem InAt.put {w : World} {S S' : Nat → Prop} {G : Nat} {fs : List Nf} (h : InAt w S G fs) {n : Nat} (hn : n < fs.length) {f : Nf} {A : Option Addr} {m c : Nat} (hm : m = f.2.length) (hc : m ≤ c) (hf : IntsS w S' A m f.2) (hS : ∀ k, S k → S' k) (hG : ¬ S' G) :
    InAt ((w.setCell ⟨G, n * 2, none⟩ (.int .i64 f.1)).setCell ⟨G, n * 2 + 1, none⟩ (.slice A m c)) S' G (fs.set n f) := by
  subst hm
  have hch := chg_pair w G (n * 2) (n * 2 + 1) (.int .i64 f.1) (.slice A f.2.length c)
  have hsame : ∀ k, S' k → k < w.heap.size → ((w.setCell ⟨G, n * 2, none⟩ (.int .i64 f.1)).setCell ⟨G, n * 2 + 1, none⟩ (.slice A f.2.length c)).heap[k]? = w.heap[k]? :=
    fun k hk hz => hch.block k hz fun e => hG (by have e : k = G := e; rw [← e]; exact hk)
  obtain ⟨cs, h1, h2, h3⟩ := h
  refine ⟨_, blk_set (blk_set h1 (n * 2) _) (n * 2 + 1) _, by simpa using h2, fun i g hg => ?_⟩
  have hi : i < fs.length := by have := (List.getElem?_eq_some_iff.1 hg).1; simpa using this
  rw [List.getElem?_set] at hg
  by_cases e : n = i
  · subst e
    rw [if_pos rfl, if_pos hn] at hg
    obtain rfl : f = g := by simpa using hg
    refine ⟨A, c, ?_, ?_, hc, hf.same hsame⟩
    · rw [Array.getElem?_setIfInBounds, if_neg (by omega), Array.getElem?_setIfInBounds, if_pos rfl, if_pos (by omega)]
    · rw [Array.getElem?_setIfInBounds, if_pos rfl, if_pos (by simp; omega)]
  · rw [if_neg e] at hg
    obtain ⟨A', c', e1, e2, e3, e4⟩ := h3 i g hg
    refine ⟨A', c', ?_, ?_, e3, (e4.mono fun k hk _ => hS k hk).same hsame⟩
    · rw [Array.getElem?_setIfInBounds, if_neg (by omega), Array.getElem?_setIfInBounds, if_neg (by omega)]; exact e1
    · rw [Array.getElem?_setIfInBounds, if_neg (by omega), Array.getElem?_setIfInBounds, if_neg (by omega)]; exact e2
end Go.Proofs.Ytjlhbaohippidaa

/-! InR -/
namespace Go.Proofs.Ytjlhbaohippidaa
open Go.RowKit Go.Proofs.YtjlhbaohippidaaW.PrintWords Go.RegionInvYtjlhbaohippidaa Go.RegionEYtjlhbaohippidaa
set_option linter.unusedVariables false

def in_ops : List Oper := [
  { dst := some 24, op := Go.Op.load 59 (Go.Operand.tmp 3), type := 59, pos := "level.go:280", after := #[], guard := none },
  { dst := some 25, op := Go.Op.fieldAddr 24 (Go.Operand.tmp 4) 1, type := 0, pos := "level.go:280", after := #[], guard := none },
  { dst := some 26, op := Go.Op.load 3 (Go.Operand.tmp 25), type := 3, pos := "level.go:280", after := #[{ on := 1, ground := Go.Ground.data }], guard := none },
  { dst := some 27, op := Go.Op.load 22 (Go.Operand.tmp 2), type := 22, pos := "level.go:280", after := #[], guard := none },
  { dst := some 28, op := Go.Op.fieldAddr 24 (Go.Operand.tmp 4) 1, type := 0, pos := "level.go:280", after := #[], guard := none },
  { dst := some 29, op := Go.Op.load 3 (Go.Operand.tmp 28), type := 3, pos := "level.go:280", after := #[{ on := 4, ground := Go.Ground.data }], guard := none },
  { dst := some 30, op := Go.Op.indexAddr 22 (Go.Operand.tmp 27) (Go.Operand.tmp 29), type := 0, pos := "level.go:280", after := #[{ on := 3, ground := Go.Ground.data }, { on := 5, ground := Go.Ground.data }], guard := none },
  { dst := some 31, op := Go.Op.load 24 (Go.Operand.tmp 30), type := 24, pos := "level.go:280", after := #[{ on := 6, ground := Go.Ground.data }], guard := none },
  { dst := some 32, op := Go.Op.call { callee := Go.Callee.value (Go.Operand.func 34), args := #[Go.Operand.tmp 31, Go.Operand.const (Go.Value.slice none 0 0)], argTypes := #[24, 59] }, type := 52, pos := "level.go:280", after := #[{ on := 7, ground := Go.Ground.data }], guard := none },
  { dst := some 33, op := Go.Op.indexAddr 59 (Go.Operand.tmp 24) (Go.Operand.tmp 26), type := 0, pos := "level.go:280", after := #[{ on := 0, ground := Go.Ground.data }, { on := 2, ground := Go.Ground.data }, { on := 0, ground := Go.Ground.phase }, { on := 1, ground := Go.Ground.phase }, { on := 2, ground := Go.Ground.phase }, { on := 3, ground := Go.Ground.phase }, { on := 4, ground := Go.Ground.phase }, { on := 5, ground := Go.Ground.phase }, { on := 6, ground := Go.Ground.phase }, { on := 7, ground := Go.Ground.phase }, { on := 8, ground := Go.Ground.phase }], guard := none },
  { dst := none, op := Go.Op.store 52 (Go.Operand.tmp 33) (Go.Operand.tmp 32), type := 0, pos := "level.go:280", after := #[{ on := 9, ground := Go.Ground.data }, { on := 8, ground := Go.Ground.data }, { on := 8, ground := Go.Ground.chain }, { on := 0, ground := Go.Ground.phase }, { on := 1, ground := Go.Ground.phase }, { on := 2, ground := Go.Ground.phase }, { on := 3, ground := Go.Ground.phase }, { on := 4, ground := Go.Ground.phase }, { on := 5, ground := Go.Ground.phase }, { on := 6, ground := Go.Ground.phase }, { on := 7, ground := Go.Ground.phase }, { on := 8, ground := Go.Ground.phase }], guard := none }]
def in_F (w0 : World) (bx gi G p b0 o0 nv cv n m0 c0 : Nat) (A0 Ax : Option Addr) (cx : Nat) (x : Lv) (fs : List Nf) : Nat → (Nat → Value) → Value → World → (Nat → Prop) → Prop := fun rix => match rix with
  | 0 => fun _ v _ _ => v = .slice (some ⟨G, 0, none⟩) nv nv
  | 1 => fun _ v _ _ => v = .pointer (some ⟨p, 1, none⟩)
  | 2 => fun _ v _ _ => v = .int .i64 n
  | 3 => fun _ v _ _ => v = .slice (some ⟨b0, o0, none⟩) nv cv
  | 4 => fun _ v _ _ => v = .pointer (some ⟨p, 1, none⟩)
  | 5 => fun _ v _ _ => v = .int .i64 n
  | 6 => fun _ v _ _ => v = .pointer (some ⟨b0, o0 + n * 3, none⟩)
  | 7 => fun _ v _ _ => v = .agg #[.int .i64 x.kind, .int .i64 x.num, .slice Ax x.kids.length cx]
  | 8 => fun τ v w O => NfV (fun _ => False) (sumP x) v w O
  | 9 => fun _ v _ _ => v = .pointer (some ⟨G, n * 2, none⟩)
  | 10 => fun τ v w O => InAt w (fun k => (fun k => G < k ∧ k < w0.heap.size) k ∨ (O k ∧ ¬ k = G)) G (fs.set n (sumP x)) ∧ O G
  | _ => fun _ _ _ _ => True
def in_C : Nat → List Nat := fun rix => match rix with
  | 10 => [8]
  | _ => []
theorem in_nw2 : nwB in_ops.toArray 2 = true := by kernel_rfl
theorem in_nw3 : nwB in_ops.toArray 3 = true := by kernel_rfl
theorem in_nw4 : nwB in_ops.toArray 4 = true := by kernel_rfl
set_option maxRecDepth 100000 in
set_option maxHeartbeats 8000000 in
theorem in_obs (w0 : World) (bx gi G p b0 o0 nv cv n m0 c0 : Nat) (A0 Ax : Option Addr) (cx : Nat) (x : Lv) (fs : List Nf) (hx2 : w0.heap[bx]? = some (.cells #[.slice (some ⟨b0, o0, none⟩) nv cv] 22 (0, 0))) (hx3 : w0.heap[gi]? = some (.cells #[.slice (some ⟨G, 0, none⟩) nv nv] 59 (0, 0))) (hx4 : w0.heap[p]? = some (.cells #[.int .i64 2, .int .i64 n, .slice A0 m0 c0] 24 (0, 0))) (hbG : ¬ bx = G) (hgG : ¬ gi = G) (hpG : ¬ p = G) (hb0 : b0 < w0.heap.size) (hb0G : ¬ b0 = G) (hc0 : w0.cell? ⟨b0, o0 + n * 3, none⟩ = some (.int .i64 x.kind)) (hc1 : w0.cell? ⟨b0, o0 + n * 3 + 1, none⟩ = some (.int .i64 x.num)) (hc2 : w0.cell? ⟨b0, o0 + n * 3 + 2, none⟩ = some (.slice Ax x.kids.length cx)) (hx : LvS w0 (fun k => k < w0.heap.size ∧ ¬ k = G) Ax cx x) (hs : soundB x = true) (hin : InAt w0 (fun k => G < k ∧ k < w0.heap.size) G fs) (hn : n < nv) (hl : fs.length = nv) (Q : Exit → Act → World → Prop) (a0 : Act) (hi2 : a0.tmps.getD 2 undef = .pointer (some ⟨bx, 0, none⟩)) (hi3 : a0.tmps.getD 3 undef = .pointer (some ⟨gi, 0, none⟩)) (hi4 : a0.tmps.getD 4 undef = .pointer (some ⟨p, 0, none⟩)) :
    ObsE Try.prog in_ops.toArray Q (est2 10 0 (fun k => k = G) (fun _ => False)) in_C (in_F w0 bx gi G p b0 o0 nv cv n m0 c0 A0 Ax cx x fs) a0 w0 in_ops.toArray.toList 0 := by
  have nw2 := in_nw2
  have nw3 := in_nw3
  have nw4 := in_nw4
  refine ⟨?_, ?_, ?_, ?_, ?_, ?_, ?_, ?_, ?_, ?_, ?_, trivial⟩
  · refine ⟨⟨fun τ => stableE_det _, leans_not⟩, ?_⟩
    intro a w O hk
    have e3 : a.eval (.tmp 3) = .pointer (some ⟨gi, 0, none⟩) := (hk.init 3 (initialB_of_nw nw3)).trans hi3
    have x2 := hk.world.still hx2 (fun ⟨_, h⟩ => h.elim (fun h => hbG h.2) And.right)
    have x3 := hk.world.still hx3 (fun ⟨_, h⟩ => h.elim (fun h => hgG h.2) And.right)
    have x4 := hk.world.still hx4 (fun ⟨_, h⟩ => h.elim (fun h => hpG h.2) And.right)
    obtain ⟨p0, p1, p2, -, -, -⟩ := row3 x4
    have r2 : w.cell? ⟨bx, 0, none⟩ = some (.slice (some ⟨b0, o0, none⟩) nv cv) := by rw [cell_of_row _ _ _ _ _ _ x2]; rfl
    have r3 : w.cell? ⟨gi, 0, none⟩ = some (.slice (some ⟨G, 0, none⟩) nv nv) := by rw [cell_of_row _ _ _ _ _ _ x3]; rfl
    have hcc : ∀ j, w.cell? ⟨b0, j, none⟩ = w0.cell? ⟨b0, j, none⟩ := fun j => cell_same (hk.fix _ (est2_fix hb0 (fun h => hb0G h) (fun h => h)))
    have q0 := (hcc _).trans hc0
    have q1 := (hcc _).trans hc1
    have q2 := (hcc _).trans hc2
    exact obE_run (wanted_none rfl) (by unfold execOp; simp only []; rw [e3]; go_simp) rfl
  · refine ⟨⟨fun τ => stableE_det _, leans_not⟩, ?_⟩
    intro a w O hk
    have e4 : a.eval (.tmp 4) = .pointer (some ⟨p, 0, none⟩) := (hk.init 4 (initialB_of_nw nw4)).trans hi4
    exact obE_run (wanted_none rfl) (by unfold execOp; simp only []; rw [e4]; go_simp) rfl
  · refine ⟨⟨fun τ => stableE_det _, leans_not⟩, ?_⟩
    intro a w O hk
    have e25 : a.eval (.tmp 25) = .pointer (some ⟨p, 1, none⟩) := hk.fact 1 _ 25 rfl rfl rfl rfl
    have x2 := hk.world.still hx2 (fun ⟨_, h⟩ => h.elim (fun h => hbG h.2) And.right)
    have x3 := hk.world.still hx3 (fun ⟨_, h⟩ => h.elim (fun h => hgG h.2) And.right)
    have x4 := hk.world.still hx4 (fun ⟨_, h⟩ => h.elim (fun h => hpG h.2) And.right)
    obtain ⟨p0, p1, p2, -, -, -⟩ := row3 x4
    have r2 : w.cell? ⟨bx, 0, none⟩ = some (.slice (some ⟨b0, o0, none⟩) nv cv) := by rw [cell_of_row _ _ _ _ _ _ x2]; rfl
    have r3 : w.cell? ⟨gi, 0, none⟩ = some (.slice (some ⟨G, 0, none⟩) nv nv) := by rw [cell_of_row _ _ _ _ _ _ x3]; rfl
    have hcc : ∀ j, w.cell? ⟨b0, j, none⟩ = w0.cell? ⟨b0, j, none⟩ := fun j => cell_same (hk.fix _ (est2_fix hb0 (fun h => hb0G h) (fun h => h)))
    have q0 := (hcc _).trans hc0
    have q1 := (hcc _).trans hc1
    have q2 := (hcc _).trans hc2
    exact obE_run (wanted_none rfl) (by unfold execOp; simp only []; rw [e25]; go_simp) rfl
  · refine ⟨⟨fun τ => stableE_det _, leans_not⟩, ?_⟩
    intro a w O hk
    have e2 : a.eval (.tmp 2) = .pointer (some ⟨bx, 0, none⟩) := (hk.init 2 (initialB_of_nw nw2)).trans hi2
    have x2 := hk.world.still hx2 (fun ⟨_, h⟩ => h.elim (fun h => hbG h.2) And.right)
    have x3 := hk.world.still hx3 (fun ⟨_, h⟩ => h.elim (fun h => hgG h.2) And.right)
    have x4 := hk.world.still hx4 (fun ⟨_, h⟩ => h.elim (fun h => hpG h.2) And.right)
    obtain ⟨p0, p1, p2, -, -, -⟩ := row3 x4
    have r2 : w.cell? ⟨bx, 0, none⟩ = some (.slice (some ⟨b0, o0, none⟩) nv cv) := by rw [cell_of_row _ _ _ _ _ _ x2]; rfl
    have r3 : w.cell? ⟨gi, 0, none⟩ = some (.slice (some ⟨G, 0, none⟩) nv nv) := by rw [cell_of_row _ _ _ _ _ _ x3]; rfl
    have hcc : ∀ j, w.cell? ⟨b0, j, none⟩ = w0.cell? ⟨b0, j, none⟩ := fun j => cell_same (hk.fix _ (est2_fix hb0 (fun h => hb0G h) (fun h => h)))
    have q0 := (hcc _).trans hc0
    have q1 := (hcc _).trans hc1
    have q2 := (hcc _).trans hc2
    exact obE_run (wanted_none rfl) (by unfold execOp; simp only []; rw [e2]; go_simp) rfl
  · refine ⟨⟨fun τ => stableE_det _, leans_not⟩, ?_⟩
    intro a w O hk
    have e4 : a.eval (.tmp 4) = .pointer (some ⟨p, 0, none⟩) := (hk.init 4 (initialB_of_nw nw4)).trans hi4
    exact obE_run (wanted_none rfl) (by unfold execOp; simp only []; rw [e4]; go_simp) rfl
  · refine ⟨⟨fun τ => stableE_det _, leans_not⟩, ?_⟩
    intro a w O hk
    have e28 : a.eval (.tmp 28) = .pointer (some ⟨p, 1, none⟩) := hk.fact 4 _ 28 rfl rfl rfl rfl
    have x2 := hk.world.still hx2 (fun ⟨_, h⟩ => h.elim (fun h => hbG h.2) And.right)
    have x3 := hk.world.still hx3 (fun ⟨_, h⟩ => h.elim (fun h => hgG h.2) And.right)
    have x4 := hk.world.still hx4 (fun ⟨_, h⟩ => h.elim (fun h => hpG h.2) And.right)
    obtain ⟨p0, p1, p2, -, -, -⟩ := row3 x4
    have r2 : w.cell? ⟨bx, 0, none⟩ = some (.slice (some ⟨b0, o0, none⟩) nv cv) := by rw [cell_of_row _ _ _ _ _ _ x2]; rfl
    have r3 : w.cell? ⟨gi, 0, none⟩ = some (.slice (some ⟨G, 0, none⟩) nv nv) := by rw [cell_of_row _ _ _ _ _ _ x3]; rfl
    have hcc : ∀ j, w.cell? ⟨b0, j, none⟩ = w0.cell? ⟨b0, j, none⟩ := fun j => cell_same (hk.fix _ (est2_fix hb0 (fun h => hb0G h) (fun h => h)))
    have q0 := (hcc _).trans hc0
    have q1 := (hcc _).trans hc1
    have q2 := (hcc _).trans hc2
    exact obE_run (wanted_none rfl) (by unfold execOp; simp only []; rw [e28]; go_simp) rfl
  · refine ⟨⟨fun τ => stableE_det _, leans_not⟩, ?_⟩
    intro a w O hk
    have e27 : a.eval (.tmp 27) = .slice (some ⟨b0, o0, none⟩) nv cv := hk.fact 3 _ 27 rfl rfl rfl rfl
    have e29 : a.eval (.tmp 29) = .int .i64 n := hk.fact 5 _ 29 rfl rfl rfl rfl
    have x2 := hk.world.still hx2 (fun ⟨_, h⟩ => h.elim (fun h => hbG h.2) And.right)
    have x3 := hk.world.still hx3 (fun ⟨_, h⟩ => h.elim (fun h => hgG h.2) And.right)
    have x4 := hk.world.still hx4 (fun ⟨_, h⟩ => h.elim (fun h => hpG h.2) And.right)
    obtain ⟨p0, p1, p2, -, -, -⟩ := row3 x4
    have r2 : w.cell? ⟨bx, 0, none⟩ = some (.slice (some ⟨b0, o0, none⟩) nv cv) := by rw [cell_of_row _ _ _ _ _ _ x2]; rfl
    have r3 : w.cell? ⟨gi, 0, none⟩ = some (.slice (some ⟨G, 0, none⟩) nv nv) := by rw [cell_of_row _ _ _ _ _ _ x3]; rfl
    have hcc : ∀ j, w.cell? ⟨b0, j, none⟩ = w0.cell? ⟨b0, j, none⟩ := fun j => cell_same (hk.fix _ (est2_fix hb0 (fun h => hb0G h) (fun h => h)))
    have q0 := (hcc _).trans hc0
    have q1 := (hcc _).trans hc1
    have q2 := (hcc _).trans hc2
    exact obE_run (wanted_none rfl) (by unfold execOp; simp only []; rw [e27, e29]; go_simp) rfl
  · refine ⟨⟨fun τ => stableE_det _, leans_not⟩, ?_⟩
    intro a w O hk
    have e30 : a.eval (.tmp 30) = .pointer (some ⟨b0, o0 + n * 3, none⟩) := hk.fact 6 _ 30 rfl rfl rfl rfl
    have x2 := hk.world.still hx2 (fun ⟨_, h⟩ => h.elim (fun h => hbG h.2) And.right)
    have x3 := hk.world.still hx3 (fun ⟨_, h⟩ => h.elim (fun h => hgG h.2) And.right)
    have x4 := hk.world.still hx4 (fun ⟨_, h⟩ => h.elim (fun h => hpG h.2) And.right)
    obtain ⟨p0, p1, p2, -, -, -⟩ := row3 x4
    have r2 : w.cell? ⟨bx, 0, none⟩ = some (.slice (some ⟨b0, o0, none⟩) nv cv) := by rw [cell_of_row _ _ _ _ _ _ x2]; rfl
    have r3 : w.cell? ⟨gi, 0, none⟩ = some (.slice (some ⟨G, 0, none⟩) nv nv) := by rw [cell_of_row _ _ _ _ _ _ x3]; rfl
    have hcc : ∀ j, w.cell? ⟨b0, j, none⟩ = w0.cell? ⟨b0, j, none⟩ := fun j => cell_same (hk.fix _ (est2_fix hb0 (fun h => hb0G h) (fun h => h)))
    have q0 := (hcc _).trans hc0
    have q1 := (hcc _).trans hc1
    have q2 := (hcc _).trans hc2
    exact obE_run (wanted_none rfl) (by unfold execOp; simp only []; rw [e30]; go_simp) rfl
  · refine ⟨⟨fun τ => stableE_nf (fun k hk' => hk'.elim), leans_not⟩, ?_⟩
    intro a w O hk
    have e31 : a.eval (.tmp 31) = .agg #[.int .i64 x.kind, .int .i64 x.num, .slice Ax x.kids.length cx] := hk.fact 7 _ 31 rfl rfl rfl rfl
    have x2 := hk.world.still hx2 (fun ⟨_, h⟩ => h.elim (fun h => hbG h.2) And.right)
    have x3 := hk.world.still hx3 (fun ⟨_, h⟩ => h.elim (fun h => hgG h.2) And.right)
    have x4 := hk.world.still hx4 (fun ⟨_, h⟩ => h.elim (fun h => hpG h.2) And.right)
    obtain ⟨p0, p1, p2, -, -, -⟩ := row3 x4
    have r2 : w.cell? ⟨bx, 0, none⟩ = some (.slice (some ⟨b0, o0, none⟩) nv cv) := by rw [cell_of_row _ _ _ _ _ _ x2]; rfl
    have r3 : w.cell? ⟨gi, 0, none⟩ = some (.slice (some ⟨G, 0, none⟩) nv nv) := by rw [cell_of_row _ _ _ _ _ _ x3]; rfl
    have hcc : ∀ j, w.cell? ⟨b0, j, none⟩ = w0.cell? ⟨b0, j, none⟩ := fun j => cell_same (hk.fix _ (est2_fix hb0 (fun h => hb0G h) (fun h => h)))
    have q0 := (hcc _).trans hc0
    have q1 := (hcc _).trans hc1
    have q2 := (hcc _).trans hc2
    have hlx := (hx.same (fun k hk' _ => hk.fix k ((fun k hk' => est2_fix hk'.1 (fun h => hk'.2 h) (fun h => h)) k hk')))
    refine obE_callNew #[.agg #[.int .i64 x.kind, .int .i64 x.num, .slice Ax x.kids.length cx], .slice none 0 0] rfl rfl rfl rfl (by simp only [List.map_cons, List.map_nil]; rw [e31]; rfl) (wanted_none rfl) ((of_nil_calls x hs Ax cx w (LvS.all hlx)).mono ?_)
    intro e w' h
    exact NfV.of_got h
  · refine ⟨⟨fun τ => stableE_det _, leans_not⟩, ?_⟩
    intro a w O hk
    have e24 : a.eval (.tmp 24) = .slice (some ⟨G, 0, none⟩) nv nv := hk.fact 0 _ 24 rfl rfl rfl rfl
    have e26 : a.eval (.tmp 26) = .int .i64 n := hk.fact 2 _ 26 rfl rfl rfl rfl
    have x2 := hk.world.still hx2 (fun ⟨_, h⟩ => h.elim (fun h => hbG h.2) And.right)
    have x3 := hk.world.still hx3 (fun ⟨_, h⟩ => h.elim (fun h => hgG h.2) And.right)
    have x4 := hk.world.still hx4 (fun ⟨_, h⟩ => h.elim (fun h => hpG h.2) And.right)
    obtain ⟨p0, p1, p2, -, -, -⟩ := row3 x4
    have r2 : w.cell? ⟨bx, 0, none⟩ = some (.slice (some ⟨b0, o0, none⟩) nv cv) := by rw [cell_of_row _ _ _ _ _ _ x2]; rfl
    have r3 : w.cell? ⟨gi, 0, none⟩ = some (.slice (some ⟨G, 0, none⟩) nv nv) := by rw [cell_of_row _ _ _ _ _ _ x3]; rfl
    have hcc : ∀ j, w.cell? ⟨b0, j, none⟩ = w0.cell? ⟨b0, j, none⟩ := fun j => cell_same (hk.fix _ (est2_fix hb0 (fun h => hb0G h) (fun h => h)))
    have q0 := (hcc _).trans hc0
    have q1 := (hcc _).trans hc1
    have q2 := (hcc _).trans hc2
    exact obE_run (wanted_none rfl) (by unfold execOp; simp only []; rw [e24, e26]; go_simp) rfl
  · refine ⟨⟨fun τ => fun v w w' O h hz hk' => ⟨InAt.same h.1 (hk' G h.1.lt (.inr h.2)) (fun k hk2 hz2 => hk' k hz2 (hk2.imp ((fun k hk' => fix_in hk') k) And.left)), h.2⟩, leans_not⟩, ?_⟩
    intro a w O hk
    have e33 : a.eval (.tmp 33) = .pointer (some ⟨G, n * 2, none⟩) := hk.fact 9 _ 33 rfl rfl rfl rfl
    have f32 := hk.fact 8 _ 32 rfl rfl rfl rfl
    have g32 := hk.owns 8 rfl rfl
    have x2 := hk.world.still hx2 (fun ⟨_, h⟩ => h.elim (fun h => hbG h.2) And.right)
    have x3 := hk.world.still hx3 (fun ⟨_, h⟩ => h.elim (fun h => hgG h.2) And.right)
    have x4 := hk.world.still hx4 (fun ⟨_, h⟩ => h.elim (fun h => hpG h.2) And.right)
    obtain ⟨p0, p1, p2, -, -, -⟩ := row3 x4
    have r2 : w.cell? ⟨bx, 0, none⟩ = some (.slice (some ⟨b0, o0, none⟩) nv cv) := by rw [cell_of_row _ _ _ _ _ _ x2]; rfl
    have r3 : w.cell? ⟨gi, 0, none⟩ = some (.slice (some ⟨G, 0, none⟩) nv nv) := by rw [cell_of_row _ _ _ _ _ _ x3]; rfl
    have hcc : ∀ j, w.cell? ⟨b0, j, none⟩ = w0.cell? ⟨b0, j, none⟩ := fun j => cell_same (hk.fix _ (est2_fix hb0 (fun h => hb0G h) (fun h => h)))
    have q0 := (hcc _).trans hc0
    have q1 := (hcc _).trans hc1
    have q2 := (hcc _).trans hc2
    have hin' : InAt w (fun k => (fun k => G < k ∧ k < w0.heap.size) k) G fs := InAt.same hin (hk.est 10 _ rfl (.inl rfl) G (.inl ⟨rfl, rfl⟩)) (fun k hk' hz => hk.fix k ((fun k hk' => fix_in hk') k hk'))
    obtain ⟨y, A', m', c', z0, z1, y0, y1⟩ := hin'.cells (n := n) (by omega)
    obtain ⟨A, m, cap, e32, h1, h2⟩ := f32
    have hm := h2.1.1
    refine obE_store (w' := (w.setCell ⟨G, n * 2, none⟩ (.int .i64 (sumP x).1)).setCell ⟨G, n * 2 + 1, none⟩ (.slice A m cap)) (fun k => k = G ∨ O 8 k) (wanted_none rfl) (by unfold execOp; simp only []; rw [e33, show a.eval (.tmp 32) = _ from e32]; go_simp) ((chg_pair w G _ _ _ _).mono fun k h => .inr (.inl ⟨rfl, h⟩)) ⟨hin'.put (by omega) hm.symm h1 (h2.mono fun k hk' _ => .inr <| hk'.elim False.elim fun h' => ⟨.inr h', fun e => hk.away 10 8 _ rfl (.inl rfl) rfl rfl G (.inl ⟨rfl, rfl⟩) (e ▸ h')⟩) (fun k h => .inl h) (fun h => h.elim (fun h => by have := h.1; omega) fun h => h.2 rfl), .inl rfl⟩ (fun k h => .inl ?_)
    exact h.elim (fun h => .inr (.inl ⟨rfl, h⟩)) fun h => .inl ⟨8, by simp [in_C], h⟩
set_option maxRecDepth 100000 in
set_option maxHeartbeats 8000000 in
theorem in_region {Q : Exit → Act → World → Prop} {id : Nat} (w0 : World) (bx gi G p b0 o0 nv cv n m0 c0 : Nat) (A0 Ax : Option Addr) (cx : Nat) (x : Lv) (fs : List Nf) {s0 s1 s5 s6 s7 s8 s9 s10 s11 s12 s13 s14 s15 s16 s17 s18 s19 s20 s21 s22 s23 s24 s25 s26 s27 s28 s29 s30 s31 s32 s33 : Value} (hx2 : w0.heap[bx]? = some (.cells #[.slice (some ⟨b0, o0, none⟩) nv cv] 22 (0, 0))) (hx3 : w0.heap[gi]? = some (.cells #[.slice (some ⟨G, 0, none⟩) nv nv] 59 (0, 0))) (hx4 : w0.heap[p]? = some (.cells #[.int .i64 2, .int .i64 n, .slice A0 m0 c0] 24 (0, 0))) (hbG : ¬ bx = G) (hgG : ¬ gi = G) (hpG : ¬ p = G) (hb0 : b0 < w0.heap.size) (hb0G : ¬ b0 = G) (hc0 : w0.cell? ⟨b0, o0 + n * 3, none⟩ = some (.int .i64 x.kind)) (hc1 : w0.cell? ⟨b0, o0 + n * 3 + 1, none⟩ = some (.int .i64 x.num)) (hc2 : w0.cell? ⟨b0, o0 + n * 3 + 2, none⟩ = some (.slice Ax x.kids.length cx)) (hx : LvS w0 (fun k => k < w0.heap.size ∧ ¬ k = G) Ax cx x) (hs : soundB x = true) (hin : InAt w0 (fun k => G < k ∧ k < w0.heap.size) G fs) (hn : n < nv) (hl : fs.length = nv)
    (hend : ∀ (w' : World) (u32 : Value) (v10 : Value) (O10 : Nat → Prop), Chg (fun k => (fun k => k = G) k ∨ (fun _ => False) k) w0 w' → (InAt w' (fun k => (fun k => G < k ∧ k < w0.heap.size) k ∨ (O10 k ∧ ¬ k = G)) G (fs.set n (sumP x)) ∧ O10 G) → (∀ k, O10 k → k < w'.heap.size ∧ ¬ Fix w0 (est2 10 0 (fun k => k = G) (fun _ => False)) k) → Q .normal { tmps := (s0 :: s1 :: (.pointer (some ⟨bx, 0, none⟩) : Value) :: (.pointer (some ⟨gi, 0, none⟩) : Value) :: (.pointer (some ⟨p, 0, none⟩) : Value) :: s5 :: s6 :: s7 :: s8 :: s9 :: s10 :: s11 :: s12 :: s13 :: s14 :: s15 :: s16 :: s17 :: s18 :: s19 :: s20 :: s21 :: s22 :: s23 :: (.slice (some ⟨G, 0, none⟩) nv nv : Value) :: (.pointer (some ⟨p, 1, none⟩) : Value) :: (.int .i64 n : Value) :: (.slice (some ⟨b0, o0, none⟩) nv cv : Value) :: (.pointer (some ⟨p, 1, none⟩) : Value) :: (.int .i64 n : Value) :: (.pointer (some ⟨b0, o0 + n * 3, none⟩) : Value) :: (.agg #[.int .i64 x.kind, .int .i64 x.num, .slice Ax x.kids.length cx] : Value) :: u32 :: (.pointer (some ⟨G, n * 2, none⟩) : Value) :: ([] : List Value)).toArray, defers := [] } w') :
    (Code.region id in_ops.toArray true).wp Try.prog Q { tmps := (s0 :: s1 :: (.pointer (some ⟨bx, 0, none⟩) : Value) :: (.pointer (some ⟨gi, 0, none⟩) : Value) :: (.pointer (some ⟨p, 0, none⟩) : Value) :: s5 :: s6 :: s7 :: s8 :: s9 :: s10 :: s11 :: s12 :: s13 :: s14 :: s15 :: s16 :: s17 :: s18 :: s19 :: s20 :: s21 :: s22 :: s23 :: s24 :: s25 :: s26 :: s27 :: s28 :: s29 :: s30 :: s31 :: s32 :: s33 :: ([] : List Value)).toArray, defers := [] } w0 := by
  refine wp_region_est (by kernel_rfl) (est2 10 0 (fun k => k = G) (fun _ => False)) in_C (in_F w0 bx gi G p b0 o0 nv cv n m0 c0 A0 Ax cx x fs) (est2_dis (fun k h1 h2 => h2)) (est2_range (fun k h => by have := hin.lt; omega) (fun k h => h.elim)) (by rfl) (by kernel_rfl) (in_obs w0.drew bx gi G p b0 o0 nv cv n m0 c0 A0 Ax cx x fs hx2 hx3 hx4 hbG hgG hpG hb0 hb0G hc0 hc1 hc2 (LvS.later hx (below_drew (Below.refl _ _))) hs (hin.same rfl fun _ _ _ => rfl) hn hl _ _ rfl rfl rfl) ?_
  intro a w' O hd hs hb hf hf2 ha hsame
  have hx : ∀ (qi : Nat) (qv : Value), nwB in_ops.toArray qi = true → (s0 :: s1 :: (.pointer (some ⟨bx, 0, none⟩) : Value) :: (.pointer (some ⟨gi, 0, none⟩) : Value) :: (.pointer (some ⟨p, 0, none⟩) : Value) :: s5 :: s6 :: s7 :: s8 :: s9 :: s10 :: s11 :: s12 :: s13 :: s14 :: s15 :: s16 :: s17 :: s18 :: s19 :: s20 :: s21 :: s22 :: s23 :: s24 :: s25 :: s26 :: s27 :: s28 :: s29 :: s30 :: s31 :: s32 :: s33 :: ([] : List Value)).toArray.getD qi undef = qv → a.tmps.getD qi undef = qv := fun qi qv h e => (hsame qi (nwB.spec h)).trans e
  have x0 := hx 0 s0 (by kernel_rfl) rfl
  have x1 := hx 1 s1 (by kernel_rfl) rfl
  have x2 := hx 2 (.pointer (some ⟨bx, 0, none⟩)) (by kernel_rfl) rfl
  have x3 := hx 3 (.pointer (some ⟨gi, 0, none⟩)) (by kernel_rfl) rfl
  have x4 := hx 4 (.pointer (some ⟨p, 0, none⟩)) (by kernel_rfl) rfl
  have x5 := hx 5 s5 (by kernel_rfl) rfl
  have x6 := hx 6 s6 (by kernel_rfl) rfl
  have x7 := hx 7 s7 (by kernel_rfl) rfl
  have x8 := hx 8 s8 (by kernel_rfl) rfl
  have x9 := hx 9 s9 (by kernel_rfl) rfl
  have x10 := hx 10 s10 (by kernel_rfl) rfl
  have x11 := hx 11 s11 (by kernel_rfl) rfl
  have x12 := hx 12 s12 (by kernel_rfl) rfl
  have x13 := hx 13 s13 (by kernel_rfl) rfl
  have x14 := hx 14 s14 (by kernel_rfl) rfl
  have x15 := hx 15 s15 (by kernel_rfl) rfl
  have x16 := hx 16 s16 (by kernel_rfl) rfl
  have x17 := hx 17 s17 (by kernel_rfl) rfl
  have x18 := hx 18 s18 (by kernel_rfl) rfl
  have x19 := hx 19 s19 (by kernel_rfl) rfl
  have x20 := hx 20 s20 (by kernel_rfl) rfl
  have x21 := hx 21 s21 (by kernel_rfl) rfl
  have x22 := hx 22 s22 (by kernel_rfl) rfl
  have x23 := hx 23 s23 (by kernel_rfl) rfl
  have x24 : a.tmps.getD 24 undef = .slice (some ⟨G, 0, none⟩) nv nv := (hf 0 _ 24 rfl rfl (by decide)).1
  have x25 : a.tmps.getD 25 undef = .pointer (some ⟨p, 1, none⟩) := (hf 1 _ 25 rfl rfl (by decide)).1
  have x26 : a.tmps.getD 26 undef = .int .i64 n := (hf 2 _ 26 rfl rfl (by decide)).1
  have x27 : a.tmps.getD 27 undef = .slice (some ⟨b0, o0, none⟩) nv cv := (hf 3 _ 27 rfl rfl (by decide)).1
  have x28 : a.tmps.getD 28 undef = .pointer (some ⟨p, 1, none⟩) := (hf 4 _ 28 rfl rfl (by decide)).1
  have x29 : a.tmps.getD 29 undef = .int .i64 n := (hf 5 _ 29 rfl rfl (by decide)).1
  have x30 : a.tmps.getD 30 undef = .pointer (some ⟨b0, o0 + n * 3, none⟩) := (hf 6 _ 30 rfl rfl (by decide)).1
  have x31 : a.tmps.getD 31 undef = .agg #[.int .i64 x.kind, .int .i64 x.num, .slice Ax x.kids.length cx] := (hf 7 _ 31 rfl rfl (by decide)).1
  have x33 : a.tmps.getD 33 undef = .pointer (some ⟨G, n * 2, none⟩) := (hf 9 _ 33 rfl rfl (by decide)).1
  have hl : a.tmps = (s0 :: s1 :: (.pointer (some ⟨bx, 0, none⟩) : Value) :: (.pointer (some ⟨gi, 0, none⟩) : Value) :: (.pointer (some ⟨p, 0, none⟩) : Value) :: s5 :: s6 :: s7 :: s8 :: s9 :: s10 :: s11 :: s12 :: s13 :: s14 :: s15 :: s16 :: s17 :: s18 :: s19 :: s20 :: s21 :: s22 :: s23 :: (.slice (some ⟨G, 0, none⟩) nv nv : Value) :: (.pointer (some ⟨p, 1, none⟩) : Value) :: (.int .i64 n : Value) :: (.slice (some ⟨b0, o0, none⟩) nv cv : Value) :: (.pointer (some ⟨p, 1, none⟩) : Value) :: (.int .i64 n : Value) :: (.pointer (some ⟨b0, o0 + n * 3, none⟩) : Value) :: (.agg #[.int .i64 x.kind, .int .i64 x.num, .slice Ax x.kids.length cx] : Value) :: (a.tmps.getD 32 undef : Value) :: (.pointer (some ⟨G, n * 2, none⟩) : Value) :: ([] : List Value)).toArray := by
    have h := lit a.tmps 34 hs
    have e : ((List.range 34).map (fun i => a.tmps.getD i undef)).toArray = ((a.tmps.getD 0 undef : Value) :: (a.tmps.getD 1 undef : Value) :: (a.tmps.getD 2 undef : Value) :: (a.tmps.getD 3 undef : Value) :: (a.tmps.getD 4 undef : Value) :: (a.tmps.getD 5 undef : Value) :: (a.tmps.getD 6 undef : Value) :: (a.tmps.getD 7 undef : Value) :: (a.tmps.getD 8 undef : Value) :: (a.tmps.getD 9 undef : Value) :: (a.tmps.getD 10 undef : Value) :: (a.tmps.getD 11 undef : Value) :: (a.tmps.getD 12 undef : Value) :: (a.tmps.getD 13 undef : Value) :: (a.tmps.getD 14 undef : Value) :: (a.tmps.getD 15 undef : Value) :: (a.tmps.getD 16 undef : Value) :: (a.tmps.getD 17 undef : Value) :: (a.tmps.getD 18 undef : Value) :: (a.tmps.getD 19 undef : Value) :: (a.tmps.getD 20 undef : Value) :: (a.tmps.getD 21 undef : Value) :: (a.tmps.getD 22 undef : Value) :: (a.tmps.getD 23 undef : Value) :: (a.tmps.getD 24 undef : Value) :: (a.tmps.getD 25 undef : Value) :: (a.tmps.getD 26 undef : Value) :: (a.tmps.getD 27 undef : Value) :: (a.tmps.getD 28 undef : Value) :: (a.tmps.getD 29 undef : Value) :: (a.tmps.getD 30 undef : Value) :: (a.tmps.getD 31 undef : Value) :: (a.tmps.getD 32 undef : Value) :: (a.tmps.getD 33 undef : Value) :: ([] : List Value)).toArray := rfl
    rw [e, x0, x1, x2, x3, x4, x5, x6, x7, x8, x9, x10, x11, x12, x13, x14, x15, x16, x17, x18, x19, x20, x21, x22, x23, x24, x25, x26, x27, x28, x29, x30, x31, x33] at h
    exact h
  obtain ⟨tmps, defers⟩ := a
  obtain rfl : defers = [] := hd
  have hl' : tmps = _ := hl
  rw [hl']
  obtain ⟨⟨v10, hv10⟩, ho10⟩ := hf2 10 _ rfl rfl (by decide)
  have hb' := est2_chg hb
  exact hend w' _ v10 (O 10) ⟨hb'.os, hb'.tape, hb'.output, hb'.size, hb'.block⟩ hv10 ho10

end Go.Proofs.Ytjlhbaohippidaa

/-! InW -/
namespace Go.Proofs.Ytjlhbaohippidaa
open Go.RowKit Go.Proofs.YtjlhbaohippidaaW.PrintWords Go.RegionInvYtjlhbaohippidaa Go.RegionEYtjlhbaohippidaa

theorem instF_no {vs : List Lv} {k n : Int} {fs : List Nf} (h : ¬ (k = 2 ∧ n < vs.length)) : instF vs k n fs = (0, fs) := if_neg h
theorem instF_bad {vs : List Lv} {k n : Int} {fs : List Nf} (h : k = 2 ∧ n < vs.length) (hs : soundB (lvAt vs n) = false) : instF vs k n fs = (1, fs) := by
  unfold instF; rw [if_pos h, if_neg (by rw [hs]; decide)]
theorem instF_ok {vs : List Lv} {k n : Int} {fs : List Nf} (h : k = 2 ∧ n < vs.length) (hs : soundB (lvAt vs n) = true) : instF vs k n fs = (0, fs.set n.toNat (sumP (lvAt vs n))) := by
  unfold instF; rw [if_pos h, if_pos hs]
theorem lvAt_get {vs : List Lv} {i : Nat} {x : Lv} (h : vs[i]? = some x) : lvAt vs i = x := by
  unfold lvAt; rw [Int.toNat_natCast, List.getD_eq_getElem?_getD, h]; rfl
/-- What a call of the visit, or of the walk, leaves. -/
def InPost (w : World) (G : Nat) (r : Int × List Nf) (e : Ending) (w' : World) : Prop := e = .returned (.int .i64 r.1) ∧ InAt w' (fun k => G < k) G r.2 ∧ Chg (fun k => k = G) w w'
/-- What the visit is told: where the levels lie and where the sums go. -/
structure InK (w : World) (bx gi G : Nat) (Av : Option Addr) (nv cv : Nat) (vs : List Lv) : Prop where
  box : w.heap[bx]? = some (.cells #[.slice Av nv cv] 22 (0, 0))
  row : w.heap[gi]? = some (.cells #[.slice (some ⟨G, 0, none⟩) nv nv] 59 (0, 0))
  ne : bx < G
  gi_ : gi = G + 1
  vs_ : LvS w (fun k => k < bx) Av cv (.mk 0 0 vs)
  len : nv = vs.length
theorem InK.later {w w' : World} {bx gi G : Nat} {Av : Option Addr} {nv cv : Nat} {vs : List Lv} (h : InK w bx gi G Av nv cv vs) (hc : Chg (fun k => k = G) w w') : InK w' bx gi G Av nv cv vs :=
  ⟨(hc.block _ (blk_lt h.box) (by have := h.ne; omega)).trans h.box, (hc.block _ (blk_lt h.row) (by have := h.gi_; omega)).trans h.row, h.ne, h.gi_, h.vs_.same fun k hk hz => hc.block k hz (by have := h.ne; omega), h.len⟩
theorem inAt_later {w w' : World} {G : Nat} {fs : List Nf} (h : InAt w (fun k => G < k) G fs) (hb : Below w.heap.size w w') : InAt w' (fun k => G < k) G fs :=
  h.same (hb.block G h.lt) fun k _ hz => hb.block k hz
theorem in_made {w0 w' : World} {G : Nat} {O : Nat → Prop} {fs : List Nf} (h : InAt w' (fun k => (G < k ∧ k < w0.heap.size) ∨ (O k ∧ ¬ k = G)) G fs) (hG : G < w0.heap.size)
    (hO : ∀ k, O k → k < w'.heap.size ∧ ¬ Fix w0 (est2 10 0 (fun k => k = G) (fun _ => False)) k) : InAt w' (fun k => G < k) G fs :=
  h.mono fun k hk _ => hk.elim And.left fun hk => by
    by_cases hz : k < w0.heap.size
    · exact absurd (est2_fix hz hk.2 (fun h => h)) (hO k hk.1).2
    · show G < k; omega
set_option maxHeartbeats 4000000 in
theorem inst1_calls (vs : List Lv) (Av : Option Addr) (nv cv : Nat) (k n : Int) (A : Option Addr) (m c : Nat) (d : Int) (bx gi G : Nat) (fs : List Nf) (w : World) (hK : InK w bx gi G Av nv cv vs) (hin : InAt w (fun k => G < k) G fs) (hl : fs.length = nv) (hn0 : 0 ≤ n ∨ k ≠ 2) :
    Calls Try.prog 42 #[.agg #[.int .i64 k, .int .i64 n, .slice A m c], .int .i64 d, .pointer (some ⟨bx, 0, none⟩), .pointer (some ⟨gi, 0, none⟩)] w (InPost w G (instF vs k n fs)) := by
  obtain ⟨w1, hw1⟩ : ∃ w1, w1 = w.alloc (.cells #[.int .i64 k, .int .i64 n, .slice A m c] 24 (0, 0)) := ⟨_, rfl⟩
  have hb1 : Below w.heap.size w w1 := by rw [hw1]; exact below_alloc (Below.refl _ _) _
  have hx1 : w1.heap[w.heap.size]? = some (.cells #[.int .i64 k, .int .i64 n, .slice A m c] 24 (0, 0)) := by rw [hw1]; exact blk_new w _
  have hC1 : Chg (fun k => k = G) w w1 := Chg.of_below hb1
  have hK1 : InK w1 bx gi G Av nv cv vs := hK.later hC1
  have hGz := hin.lt
  have HIN := Aside0.mk (inAt_later hin hb1)
  have HC := Aside0.mk hC1
  have HK := Aside0.mk hK1
  have HX := Aside0.mk hx1
  have HL := Aside0.mk hl
  have HN := Aside0.mk hK.len
  have hr2 : w1.cell? ⟨bx, 0, none⟩ = some (.slice Av nv cv) := by rw [cell_of_row _ _ _ _ _ _ hK1.box]; rfl
  obtain ⟨p0, p1, p2, -, -, -⟩ := row3 hx1
  clear hK1 hx1 hl hK hin hb1 hC1
  go_enter Try.func42, Try.ntmps42
  go_upto_region 1 with (fail)
  rw [← hw1]
  clear hw1
  by_cases hk : k = 2
  · subst hk
    by_cases hn : n < nv
    · obtain ⟨i, rfl⟩ := Int.eq_ofNat_of_zero_le (hn0.resolve_right fun h => h rfl)
      have hi : i < nv := by omega
      obtain ⟨x, hx⟩ : ∃ x, vs[i]? = some x := ⟨_, List.getElem?_eq_getElem (by rw [← HN.out]; exact hi)⟩
      obtain ⟨Ax, cx, hcs, hlx⟩ := HK.out.vs_.kid i x hx
      obtain ⟨⟨b0, o0, sp⟩, rfl, hS, hsp, h1, h2, h3⟩ := hcs
      obtain rfl : sp = none := hsp
      rw [add_flat] at h1 h2 h3
      have g2 : w1.cell? ⟨b0, o0 + i * 3 + 1, none⟩ = some (.int .i64 x.num) := h2
      have g3 : w1.cell? ⟨b0, o0 + i * 3 + 2, none⟩ = some (.slice Ax x.kids.length cx) := h3
      clear h2 h3
      have HX0 := Aside0.mk hlx
      have HLV := Aside0.mk (lvAt_get hx)
      have hb0 : b0 < bx := hS
      have hnb : decide ((nv : Int) ≤ (i : Int)) = false := decide_eq_false (by omega)
      clear hx hlx hS hn
      have HCN := Aside0.mk (show (2 : Int) = 2 ∧ (i : Int) < vs.length from ⟨rfl, by rw [← HN.out]; omega⟩)
      cases hs : soundB x with
      | false =>
        have HS := Aside0.mk hs
        have HE := Aside0.mk (instF_bad (fs := fs) HCN.out (by rw [HLV.out]; exact hs))
        clear hs
        go_wp2_with (go_at_call 33; go_must (refine (sound_calls Ax cx x _ (LvS.all HX0.out)).mono ?_; rintro e w2 ⟨rfl, hb⟩; rw [HS.out]; have HIN2 := Aside0.mk (inAt_later HIN.out hb); have HC2 := Aside0.mk (chg_trans HC.out (Chg.of_below hb)); clear hb))
        go_ret
        rw [HE.out]
        exact ⟨rfl, HIN2.out, HC2.out⟩
      | true =>
        have HS := Aside0.mk hs
        have HE := Aside0.mk (show instF vs 2 (i : Int) fs = (0, fs.set i (sumP x)) by rw [instF_ok (fs := fs) HCN.out (by rw [HLV.out]; exact hs), HLV.out, Int.toNat_natCast])
        clear hs
        have H1 := Aside0.mk h1
        have H2 := Aside0.mk g2
        have H3 := Aside0.mk g3
        have hb0z := blk_lt HK.out.box
        go_upto_region 5 with (go_at_call 33; go_must (refine (sound_calls Ax cx x _ (LvS.all HX0.out)).mono ?_; rintro e w2 ⟨rfl, hb⟩; rw [HS.out]; have hcc : ∀ j, w2.cell? ⟨b0, j, none⟩ = w1.cell? ⟨b0, j, none⟩ := fun j => cell_same (hb.block b0 (by omega)); have HIN2 := Aside0.mk (inAt_later HIN.out hb); have HC2 := Aside0.mk (chg_trans HC.out (Chg.of_below hb)); have HK2 := Aside0.mk (HK.out.later (Chg.of_below hb)); have HX2 := Aside0.mk (blk_below HX.out hb); have HX02 := Aside0.mk (HX0.out.later hb); have Q1 := Aside0.mk ((hcc _).trans H1.out); have Q2 := Aside0.mk ((hcc _).trans H2.out); have Q3 := Aside0.mk ((hcc _).trans H3.out); have hz2 := hb.size; clear hb hcc))
        have hne := HK2.out.ne
        have hgi := HK2.out.gi_
        have hbz := blk_lt HK2.out.box
        have hz1 := blk_lt HX.out
        refine in_region w2 bx gi G w.heap.size b0 o0 nv cv i m c A Ax cx x fs HK2.out.box HK2.out.row HX2.out (by omega) (by omega) (by omega) (by omega) (by omega) Q1.out Q2.out Q3.out (HX02.out.mono fun k hk hz => ⟨hz, by omega⟩) HS.out (HIN2.out.mono fun k hk hz => ⟨hk, hz⟩) hi HL.out ?_
        rintro w6 u32 v10 O10 hch ⟨hia, -⟩ hO
        have HIN6 := Aside0.mk (in_made (w0 := w2) hia (by omega) hO)
        have HC6 := Aside0.mk (chg_trans HC2.out (hch.mono fun k h => h.elim id False.elim))
        clear hia hO hch
        go_wp2
        go_ret
        rw [HE.out]
        exact ⟨rfl, HIN6.out, HC6.out⟩
    · have HE := Aside0.mk (instF_no (vs := vs) (k := 2) (n := n) (fs := fs) fun h => hn (by rw [HN.out]; exact h.2))
      have hnb : decide ((nv : Int) ≤ n) = true := decide_eq_true (by omega)
      clear hn
      go_wp2
      go_ret
      rw [HE.out]
      exact ⟨rfl, HIN.out, HC.out⟩
  · have HE := Aside0.mk (instF_no (vs := vs) (k := k) (n := n) (fs := fs) fun h => hk h.1)
    have hkb : (k != 2) = true := by simp [hk]
    clear hk
    go_wp2
    go_ret
    rw [HE.out]
    exact ⟨rfl, HIN.out, HC.out⟩
end Go.Proofs.Ytjlhbaohippidaa

/-! InU -/
namespace Go.Proofs.Ytjlhbaohippidaa
open Go.RowKit Go.Proofs.YtjlhbaohippidaaW.PrintWords Go.RegionInvYtjlhbaohippidaa Go.RegionEYtjlhbaohippidaa

abbrev instC (bx gi : Nat) : Value := .func (.func 42) #[] #[.pointer (some ⟨bx, 0, none⟩), .pointer (some ⟨gi, 0, none⟩)]
theorem good_n0 {k n : Int} {ks : List Lv} (h : Good (.mk k n ks)) : 0 ≤ n ∨ k ≠ 2 := by
  rcases good_cases h with ⟨rfl, _, h0, _⟩ | ⟨rfl, _, h0, _⟩ | ⟨rfl, _, _, h0, _⟩ | ⟨rfl, _⟩
  · exact .inl h0
  · exact .inl h0
  · exact .inl (by omega)
  · exact .inr (by decide)
theorem good_kid {k n : Int} {ks : List Lv} {i : Nat} {x : Lv} (h : Good (.mk k n ks)) (hx : ks[i]? = some x) : Good x := by
  cases h with
  | mk _ hk => exact hk x (List.mem_of_getElem? hx)
theorem inst1_at (vs : List Lv) (Av : Option Addr) (nv cv : Nat) (k n : Int) (ks : List Lv) (A : Option Addr) (m c : Nat) (d : Int) (bx gi G : Nat) (fs : List Nf) (w : World) (hg : Good (.mk k n ks)) (hK : InK w bx gi G Av nv cv vs) (hin : InAt w (fun k => G < k) G fs) (hl : fs.length = nv) :
    Calls Try.prog 42 #[.agg #[.int .i64 k, .int .i64 n, .slice A m c], .int .i64 d, .pointer (some ⟨bx, 0, none⟩), .pointer (some ⟨gi, 0, none⟩)] w (InPost w G (instF vs k n fs)) :=
  inst1_calls vs Av nv cv k n A m c d bx gi G fs w hK hin hl (good_n0 hg)
set_option maxHeartbeats 4000000 in
theorem walk_inst (vs : List Lv) (Av : Option Addr) (nv cv bx gi G : Nat) (N : Nat) : ∀ (l : Lv), SizeOf.sizeOf l < N → Good l → ∀ (A : Option Addr) (c : Nat) (d : Int) (fs : List Nf) (w : World), LvIn w bx A c l → InK w bx gi G Av nv cv vs → InAt w (fun k => G < k) G fs → fs.length = nv →
    Calls Try.prog 27 #[lvV A c l, .int .i64 d, instC bx gi] w (InPost w G (instP vs l fs)) := by
  induction N with
  | zero => intro l h; omega
  | succ N ih =>
    rintro ⟨lk, ln, ks⟩ hN hgood A c d fs w hin hK hI hl
    have IH := Aside0.mk ih
    have HIN := Aside0.mk hin
    have HK := Aside0.mk hK
    have HI := Aside0.mk hI
    have HL := Aside0.mk hl
    have HGD := Aside0.mk hgood
    have hGz := hI.lt
    have hbG := hK.ne
    have hlen := hin.len
    simp only [Lv.kids] at hlen
    have hl9 : ks.length ≤ 9223372036854775807 := by omega
    clear ih hin hK hI hl hgood hlen
    unfold instC lvV
    simp only [Lv.kind, Lv.num, Lv.kids]
    obtain ⟨m, hm⟩ : ∃ m, m = ks.length := ⟨_, rfl⟩
    rw [← hm] at hl9 ⊢
    have HM := Aside0.mk hm
    clear hm
    go_enter Try.func27, Try.ntmps27
    have hba : ∀ o : Obj, Below w.heap.size w (w.alloc o) := fun o => below_alloc (Below.refl _ _) _
    have HBA := Aside0.mk hba
    clear hba
    obtain ⟨e0, fs0, hes⟩ : ∃ a b, instF vs lk ln fs = (a, b) := ⟨_, _, rfl⟩
    have HV := Aside0.mk hes
    have HL0 := Aside0.mk (show fs0.length = nv by have := instF_len vs lk ln fs; rw [hes] at this; exact this.trans HL.out)
    by_cases h1 : e0 = 0
    · subst h1
      have HE := Aside0.mk (show instP vs (.mk lk ln ks) fs = instKs vs ks fs0 by rw [instP_go (by rw [hes]), hes])
      clear hes
      go_wp2_with (go_at_call 42; go_must (refine (inst1_at vs Av nv cv lk ln ks A m c d bx gi G fs _ HGD.out (HK.out.later (Chg.of_below (HBA.out _))) (inAt_later HI.out (HBA.out _)) HL.out).mono ?_; rintro e w1 ⟨rfl, hg1, hc1⟩; rw [HV.out] at hg1 ⊢; have HI1 := Aside0.mk hg1; have hbox := chg_cell hc1 (box_cell w #[.int .i64 lk, .int .i64 ln, .slice A m c] 24 2 _ rfl) (Nat.ne_of_gt hGz); have HC1 := Aside0.mk (chg_trans (chg_alloc _ _ _) hc1); clear hg1 hc1))
      go_loopw [21] (fun i wr => ∃ (k : Nat) (fs' : List Nf), i = .int .i64 k ∧ k ≤ m ∧ Aside0 (fs'.length = nv) ∧ Aside0 (instKs vs (ks.drop k) fs' = instP vs (.mk lk ln ks) fs) ∧ Aside0 (InAt wr (fun k => G < k) G fs') ∧ Aside0 (Chg (fun k => k = G) w wr)) (fun i _ => m - (intOf i).toNat)
      case atStart => exact ⟨0, fs0, rfl, Nat.zero_le _, HL0, ⟨HE.out.symm⟩, HI1, HC1⟩
      case round =>
        clear HE HV HI1 HC1 hbox
        obtain ⟨k, fs', rfl, hk, HL1, HE, HI1, HC1⟩ := hrel
        have HIN2 := Aside0.mk (LvIn.stay HIN.out (chg_below HC1.out (Nat.le_of_lt hbG) (Nat.le_of_lt (Nat.lt_of_lt_of_le (Nat.lt_trans hbG hGz) (Nat.le_refl _)))))
        have HK2 := Aside0.mk (HK.out.later HC1.out)
        by_cases hlt : k < m
        · have hlt2 : k < ks.length := by rw [← HM.out]; exact hlt
          obtain ⟨x, hx⟩ : ∃ x, ks[k]? = some x := ⟨_, List.getElem?_eq_getElem hlt2⟩
          obtain ⟨A', c', hcs, hin⟩ := HIN2.out.kid k x hx
          obtain ⟨ad, rfl, hc1, hc2, hc3⟩ := hcs.facts
          clear hcs
          have HX := Aside0.mk hx
          have HXIN := Aside0.mk hin
          have HXG := Aside0.mk (good_kid HGD.out hx)
          clear hx hin hlt2
          have hG2 := HI1.out.lt
          have HBB := Aside0.mk (show ∀ o : Obj, Below wr.heap.size wr (wr.alloc o) from fun o => below_alloc (Below.refl _ _) _)
          obtain ⟨e2, fs2, hes⟩ : ∃ a b, instP vs x fs' = (a, b) := ⟨_, _, rfl⟩
          have HV := Aside0.mk hes
          by_cases h2 : e2 = 0
          · subst h2
            have HKK := Aside0.mk (show instKs vs (ks.drop (k + 1)) fs2 = instP vs (.mk lk ln ks) fs by rw [← HE.out, drop_kid HX.out, instKs_go (by rw [hes]), hes])
            have HL2 := Aside0.mk (show fs2.length = nv by have := inst_len vs x fs'; rw [hes] at this; exact this.trans HL1.out)
            clear hes
            go_wp2_with (go_at_call 27; go_must (refine (IH.out x (Nat.lt_of_lt_of_le (kid_small HX.out) (Nat.le_of_lt_succ hN)) HXG.out A' c' _ fs' _ (LvIn.stay HXIN.out ((Below.refl _ _).alloc (Nat.le_of_lt (Nat.lt_trans hbG hG2)) _)) (HK2.out.later (Chg.of_below (HBB.out _))) (inAt_later HI1.out (HBB.out _)) HL1.out).mono ?_; rintro e w2 ⟨rfl, hg1, hc1⟩; rw [HV.out] at hg1 ⊢; have HI2 := Aside0.mk hg1; have HC2 := Aside0.mk (chg_trans HC1.out (chg_trans (chg_alloc _ _ _) hc1)); clear hg1 hc1))
            go_roundw
            case rel => exact ⟨k + 1, fs2, by go_num, by omega, HL2, HKK, HI2, HC2⟩
            case measure => (simp [intOf]; try omega)
          · have HKK := Aside0.mk (show (e2, fs2) = instP vs (.mk lk ln ks) fs by rw [← HE.out, drop_kid HX.out, instKs_stop (by rw [hes]; exact h2), hes])
            have h2' : (e2 != 0) = true := by simpa using h2
            clear hes h2
            go_wp2_with (go_at_call 27; go_must (refine (IH.out x (Nat.lt_of_lt_of_le (kid_small HX.out) (Nat.le_of_lt_succ hN)) HXG.out A' c' _ fs' _ (LvIn.stay HXIN.out ((Below.refl _ _).alloc (Nat.le_of_lt (Nat.lt_trans hbG hG2)) _)) (HK2.out.later (Chg.of_below (HBB.out _))) (inAt_later HI1.out (HBB.out _)) HL1.out).mono ?_; rintro e w2 ⟨rfl, hg1, hc1⟩; rw [HV.out] at hg1 ⊢; have HI2 := Aside0.mk hg1; have HC2 := Aside0.mk (chg_trans HC1.out (chg_trans (chg_alloc _ _ _) hc1)); clear hg1 hc1))
            go_ret
            rw [← HKK.out]
            exact ⟨rfl, HI2.out, HC2.out⟩
        · obtain rfl : k = m := by omega
          have hlt' : decide ((k : Int) < k) = false := by simp
          have HW := Aside0.mk (show instP vs (.mk lk ln ks) fs = (0, fs') by rw [← HE.out, List.drop_of_length_le (by rw [← HM.out]; exact Nat.le_refl _), instKs])
          go_wp2
          go_ret
          rw [HW.out]
          exact ⟨rfl, HI1.out, HC1.out⟩
    · have HE := Aside0.mk (show instP vs (.mk lk ln ks) fs = (e0, fs0) by rw [instP_stop (by rw [hes]; exact h1), hes])
      have h1' : (e0 != 0) = true := by simp [h1]
      clear h1 hes
      go_wp2_with (go_at_call 42; go_must (refine (inst1_at vs Av nv cv lk ln ks A m c d bx gi G fs _ HGD.out (HK.out.later (Chg.of_below (HBA.out _))) (inAt_later HI.out (HBA.out _)) HL.out).mono ?_; rintro e w1 ⟨rfl, hg1, hc1⟩; rw [HV.out] at hg1 ⊢; have HI1 := Aside0.mk hg1; have HC1 := Aside0.mk (chg_trans (chg_alloc _ _ _) hc1); clear hg1 hc1))
      go_ret
      rw [HE.out]
      exact ⟨rfl, HI1.out, HC1.out⟩
end Go.Proofs.Ytjlhbaohippidaa

/-! InV -/
namespace Go.Proofs.Ytjlhbaohippidaa
open Go.RowKit Go.Proofs.YtjlhbaohippidaaW.PrintWords Go.RegionInvYtjlhbaohippidaa Go.RegionEYtjlhbaohippidaa

theorem infoNorm : (Try.prog.info? 52).map (fun i => (i.zero, i.size, i.bytes)) = some (some (.agg #[.int .i64 0, .slice none 0 0]), 2, 32) := by kernel_rfl
theorem norm_make (m : Nat) (hm : m ≤ 1000) : ∀ W : World, (Instr.makeSlice 59 (.int .i64 (m : Int)) (.int .i64 (m : Int))).run Try.prog W = .ok (.slice (some ⟨W.heap.size, 0, none⟩) m m) (W.alloc (.cells (madeCells #[.int .i64 0, .slice none 0 0] (m * 2)) 52)) := by
  intro W
  obtain ⟨i, hi, he⟩ := Option.map_eq_some_iff.1 infoNorm
  simp only [Prod.mk.injEq] at he
  obtain ⟨h1, h2, h3⟩ := he
  have := run_make (P := Try.prog) W 59 52 i _ Try.underlying59 hi h1 .i64 .i64 m m (by omega) (Int.le_refl _) (by rw [h3]; omega) (by omega)
  rw [h2] at this
  simpa only [Int.toNat_natCast, show (Value.agg #[.int .i64 0, .slice none 0 0]).cells = #[.int .i64 0, .slice none 0 0] from rfl] using this
theorem in_new (w : World) (S : Nat → Prop) (nv : Nat) : InAt (w.alloc (.cells (madeCells #[.int .i64 0, .slice none 0 0] (nv * 2)) 52)) S w.heap.size (List.replicate nv (0, [])) := by
  refine ⟨_, blk_new w _, by simp [size_madeCells], fun i f hf => ?_⟩
  obtain ⟨hi, rfl⟩ := List.getElem?_eq_some_iff.1 hf
  simp only [List.length_replicate] at hi
  simp only [List.getElem_replicate, List.length_nil]
  refine ⟨none, 0, ?_, ?_, Nat.le_refl _, IntsS.nil _ _⟩
  · rw [Array.getElem?_eq_getElem (by simp [size_madeCells]; omega)]
    simp [madeCells]
  · rw [Array.getElem?_eq_getElem (by simp [size_madeCells]; omega)]
    simp [madeCells, Nat.add_mod]
/-! ### sums that may be -/
def NfL (f : Nf) : Prop := NfOk f ∧ f.2.length ≤ 1001
theorem sum_nfl {l : Lv} (h : soundB l = true) : NfL (sumP l) := ⟨sumP_ok h, len_le (good_of_sound h)⟩
theorem zero_nfl : NfL (0, []) := ⟨⟨(by decide), (by decide), (fun x hx => by simp at hx), (by simp)⟩, (by simp)⟩
theorem instF_nfl (vs : List Lv) (k n : Int) {fs : List Nf} (h : ∀ f ∈ fs, NfL f) : ∀ f ∈ (instF vs k n fs).2, NfL f := by
  unfold instF
  split
  · split
    · rename_i hs
      intro f hf
      rcases List.mem_or_eq_of_mem_set hf with hf | rfl
      · exact h f hf
      · exact sum_nfl hs
    · exact h
  · exact h
mutual
theorem inst_nfl (vs : List Lv) : (l : Lv) → (fs : List Nf) → (∀ f ∈ fs, NfL f) → ∀ f ∈ (instP vs l fs).2, NfL f
  | .mk k n ks, fs, h => by
    rw [instP]; split
    · exact instF_nfl vs k n h
    · exact insts_nfl vs ks _ (instF_nfl vs k n h)
theorem insts_nfl (vs : List Lv) : (ks : List Lv) → (fs : List Nf) → (∀ f ∈ fs, NfL f) → ∀ f ∈ (instKs vs ks fs).2, NfL f
  | [], fs, h => by rw [instKs]; exact h
  | x :: r, fs, h => by
    rw [instKs]; split
    · exact inst_nfl vs x fs h
    · exact insts_nfl vs r _ (inst_nfl vs x fs h)
end
theorem ofP_len {fs : List Nf} (hfs : ∀ f ∈ fs, NfL f) {l : Lv} (h : Good l) : (ofP fs l).2.length ≤ 1001 := by
  induction h with
  | @mk k n ks h hk ih =>
    rcases good_cases (.mk h hk) with ⟨rfl, rfl, h0, h1⟩ | ⟨rfl, rfl, h0, h1⟩ | ⟨rfl, x, rfl, h0, h1, -⟩ | ⟨rfl, x, y, rfl, -, -⟩
    · rw [ofP_num]; simp
    · rw [ofP_var]
      unfold varN
      split
      · rw [List.getD_eq_getElem?_getD]
        cases e : fs[n.toNat]? with
        | none => simp
        | some f => exact (hfs f (List.mem_of_getElem? e)).2
      · simp; omega
    · have := ih x (by simp)
      rw [ofP_succ]
      simpa [plusN] using this
    · have hx := ih x (by simp)
      have hy := ih y (by simp)
      rw [ofP_max, or_len]
      omega
theorem ofP_nfl {fs : List Nf} (hfs : ∀ f ∈ fs, NfL f) {l : Lv} (h : Good l) : NfL (ofP fs l) := ⟨ofP_ok (fun f hf => (hfs f hf).1) h, ofP_len hfs h⟩
theorem of_at (S : Nat → Prop) (Av : Option Addr) (nv cv : Nat) (fs : List Nf) (hl : fs.length = nv) (hfs : ∀ f ∈ fs, NfOk f) (hlen : nv ≤ 9223372036854775807) (l : Lv) (hg : Good l) (A : Option Addr) (c : Nat) (w : World) (hin : LvIn w w.heap.size A c l) (hf : NfsS w S Av fs) (hS : ∀ k, S k → k < w.heap.size) :
    Calls Try.prog 34 #[lvV A c l, .slice Av nv cv] w (NfGot w S (ofP fs l)) := by
  subst hl
  exact of_calls S Av cv fs hfs hlen _ l (Nat.lt_succ_self _) hg A c w hin hf hS
theorem zero_got (w w' : World) (hb : Below w.heap.size w w') : LvGot w (fun _ => False) (.mk 0 0 []) (.returned (.agg #[.int .i64 0, .int .i64 0, .slice none 0 0])) w' := ⟨none, 0, rfl, LvS.leaf _ _ _ _, hb⟩
set_option maxHeartbeats 4000000 in
theorem inst_calls (A : Option Addr) (c : Nat) (l : Lv) (Av : Option Addr) (nv cv : Nat) (vs : List Lv) (w : World) (hin : LvIn w w.heap.size A c l) (hv : LvIn w w.heap.size Av cv (.mk 0 0 vs)) (hn : nv = vs.length) (hn50 : nv ≤ 1000) :
    Calls Try.prog 23 #[lvV A c l, .slice Av nv cv] w (LvGot w (fun _ => False) (instL vs l)) := by
  have HIN := Aside0.mk hin
  have HV := Aside0.mk hv
  have HN := Aside0.mk hn
  have hl9 : l.kids.length ≤ 9223372036854775807 := by have := hin.len; omega
  have MK := norm_make nv hn50
  clear hin hv hn
  unfold lvV
  obtain ⟨w0, hw0⟩ : ∃ w0, w0 = ((w.alloc (.cells #[.int .i64 l.kind, .int .i64 l.num, .slice A l.kids.length c] 24 (0, 0))).alloc (.cells #[.slice Av nv cv] 22 (0, 0))).alloc (.cells #[.int .i64 0, .int .i64 0, .slice none 0 0] 24 (0, 0)) := ⟨_, rfl⟩
  have hb0 : Below w.heap.size w w0 := by rw [hw0]; exact below_alloc (below_alloc (below_alloc (Below.refl _ _) _) _) _
  have HX0 := Aside0.mk (show w0.heap[w.heap.size]? = some (.cells #[.int .i64 l.kind, .int .i64 l.num, .slice A l.kids.length c] 24 (0, 0)) by rw [hw0]; exact blk_alloc (box0 w _ _) _)
  have HV0 := Aside0.mk (show w0.heap[w.heap.size + 1]? = some (.cells #[.slice Av nv cv] 22 (0, 0)) by rw [hw0]; exact blk_alloc (box1 w _ _) _)
  have HY0 := Aside0.mk (show w0.heap[w.heap.size + 2]? = some (.cells #[.int .i64 0, .int .i64 0, .slice none 0 0] 24 (0, 0)) by rw [hw0]; simpa using blk_new ((w.alloc _).alloc _) _)
  have HB0 := Aside0.mk hb0
  clear hb0
  go_enter Try.func23, Try.ntmps23
  go_upto_region 1 with (fail)
  rw [← hw0]
  clear hw0
  obtain ⟨p0, p1, p2, -, -, -⟩ := row3 HX0.out
  cases hs : soundB l with
  | false =>
    have HS := Aside0.mk hs
    have HE := Aside0.mk (show instL vs l = .mk 0 0 [] by unfold instL; rw [if_neg (by rw [hs]; simp)])
    clear hs
    go_upto_region 2 with (first
      | (go_at_call 33; go_must (refine (sound_calls A c l _ (LvS.all (HIN.out.stay HB0.out))).mono ?_; rintro e w1 ⟨rfl, hb⟩; rw [HS.out]; have HB1 := Aside0.mk (below_then HB0.out HB0.out.size hb); have HY1 := Aside0.mk (blk_below HY0.out hb); obtain ⟨z0, z1, z2, q0, q1, q2⟩ := row3 HY1.out; clear hb)))
    go_wp2
    refine bodyPost_ret (results_c rfl _ _ (w.heap.size + 1 + 1) 24 #[.int .i64 0, .int .i64 0, .slice none 0 0] (0, 0) _ rfl (set3 HY1.out) Try.underlying24 rfl (by kernel_rfl)) rfl ?_
    rw [HE.out]
    exact zero_got _ _ (Chg.trans_below HB1.out (chg_set3 _ _ _ _ _) (fun _ e => by omega) HB1.out.size)
  | true =>
    have HS := Aside0.mk hs
    clear hs
    go_upto_region 4 with (first
      | (go_at_call 33; go_must (refine (sound_calls A c l _ (LvS.all (HIN.out.stay HB0.out))).mono ?_; rintro e w1 ⟨rfl, hb⟩; rw [HS.out]; have HB1 := Aside0.mk (below_then HB0.out HB0.out.size hb); have HX1 := Aside0.mk (blk_below HX0.out hb); have HV1 := Aside0.mk (blk_below HV0.out hb); have HY1 := Aside0.mk (blk_below HY0.out hb); obtain ⟨p0, p1, p2, -, -, -⟩ := row3 HX1.out; have pv := (show w1.cell? ⟨w.heap.size + 1, 0, none⟩ = some (.slice Av nv cv) by rw [cell_of_row _ _ _ _ _ _ HV1.out]; rfl); clear hb)))
    clear p0 p1 p2 pv MK
    obtain ⟨G, hG⟩ : ∃ G, G = w1.heap.size := ⟨_, rfl⟩
    have hyl := blk_lt HY1.out
    obtain ⟨w2, hw2⟩ : ∃ w2, w2 = (w1.alloc (.cells (madeCells #[.int .i64 0, .slice none 0 0] (nv * 2)) 52)).alloc (.cells #[.slice (some ⟨w1.heap.size, 0, none⟩) nv nv] 59) := ⟨_, rfl⟩
    have hb2 : Below w1.heap.size w1 w2 := by rw [hw2]; exact two_boxes _ _
    have hi2 : InAt w2 (fun k => G < k) G (List.replicate nv (0, [])) := by
      rw [hw2, hG]; exact (in_new w1 _ nv).same (by rw [blk_alloc (blk_new w1 _)]; exact (blk_new w1 _).symm) fun k _ hk => (below_alloc (Below.refl _ _) _).block k hk
    have hk2 : InK w2 (w.heap.size + 1) (G + 1) G Av nv cv vs := ⟨blk_below HV1.out hb2, by rw [hw2, hG]; exact box1 w1 _ _, by omega, rfl, LvIn.mono ((HV.out.stay HB1.out).stay (hb2.mono (by omega))) (Nat.le_succ _), HN.out⟩
    have HI2 := Aside0.mk hi2
    have HK2 := Aside0.mk hk2
    have HB2 := Aside0.mk (below_then HB1.out HB1.out.size hb2)
    have HX2 := Aside0.mk (blk_below HX1.out hb2)
    have HY2 := Aside0.mk (blk_below HY1.out hb2)
    rw [← hw2, ← hG]
    have HGZ := Aside0.mk (show w.heap.size + 3 ≤ G by omega)
    obtain ⟨p0, p1, p2, -, -, -⟩ := row3 HX2.out
    clear hw2 hb2 hi2 hk2 hG hyl
    obtain ⟨e3, fs3, hes⟩ : ∃ a b, instP vs l (List.replicate nv (0, [])) = (a, b) := ⟨_, _, rfl⟩
    have HV3 := Aside0.mk hes
    by_cases he : e3 = 0
    · subst he
      have HIE := Aside0.mk (show instL vs l = lvlN (shortN (ofP (vs.map sumP) l)) by unfold instL; rw [if_pos ⟨HS.out, by rw [← HN.out, hes]⟩])
      have HL3 := Aside0.mk (show fs3.length = nv by have := inst_len vs l (List.replicate nv (0, [])); rw [hes] at this; simpa using this)
      have HOF := Aside0.mk (show ofP fs3 l = ofP (vs.map sumP) l from inst_sum (good_of_sound HS.out) (List.replicate nv (0, [])) fs3 (by simp [HN.out]) (by rw [hes]) (by rw [hes]; exact ⟨rfl, fun _ _ h => h⟩))
      have HFS := Aside0.mk (show ∀ f ∈ fs3, NfL f by have := inst_nfl vs l (List.replicate nv (0, [])) (fun f hf => by rw [(List.mem_replicate.1 hf).2]; exact zero_nfl); rw [hes] at this; exact this)
      clear hes
      go_upto_region 7 with (first
        | (go_at_call 27; go_must (refine (walk_inst vs Av nv cv (w.heap.size + 1) (G + 1) G _ l (Nat.lt_succ_self _) (good_of_sound HS.out) A c 1 _ _ (LvIn.mono (HIN.out.stay HB2.out) (by omega)) HK2.out HI2.out (by simp)).mono ?_; rintro e w3 ⟨rfl, hi3, hc3⟩; rw [HV3.out] at hi3 ⊢; have HI3 := Aside0.mk hi3; have HK3 := Aside0.mk (HK2.out.later hc3); have HB3 := Aside0.mk (Chg.trans_below HB2.out hc3 (fun _ e => by have := HGZ.out; omega) HB2.out.size); have HX3 := Aside0.mk ((hc3.block _ (blk_lt HX2.out) (by have := HGZ.out; omega)).trans HX2.out); have HY3 := Aside0.mk ((hc3.block _ (blk_lt HY2.out) (by have := HGZ.out; omega)).trans HY2.out); obtain ⟨r0, r1, r2, -, -, -⟩ := row3 HX3.out; have pr := (show w3.cell? ⟨G + 1, 0, none⟩ = some (.slice (some ⟨G, 0, none⟩) nv nv) by rw [cell_of_row _ _ _ _ _ _ HK3.out.row]; rfl); clear hi3 hc3)))
      have HFO := Aside0.mk (ofP_nfl HFS.out (good_of_sound HS.out))
      have HNE := Aside0.mk (parts_ne HFO.out.1)
      have HSO := Aside0.mk (short_ok HFO.out.1)
      have HSL := Aside0.mk (Nat.le_trans (short_len_le _) HFO.out.2)
      have HGZ3 := Aside0.mk HI3.out.lt
      go_wp2_with (first
        | (go_at_call 34; go_must (refine (of_at (fun k => G ≤ k ∧ k < w3.heap.size) (some ⟨G, 0, none⟩) nv nv fs3 HL3.out (fun f hf => (HFS.out f hf).1) (by omega) l (good_of_sound HS.out) A c _ (LvS.all (HIN.out.stay HB3.out)) (HI3.out.nfs.mono fun k hk hz => ⟨by rcases hk with rfl | hk <;> omega, hz⟩) (fun k hk => hk.2)).mono ?_; rintro e w4 ⟨A2, n2, c2, rfl, hcap2, hi2, hb⟩; have HI4 := Aside0.mk hi2; have HCAP4 := Aside0.mk hcap2; have HB4 := Aside0.mk (below_then HB3.out HB3.out.size hb); have HY4 := Aside0.mk (blk_below HY3.out hb); clear hb hi2 hcap2))
        | (go_at_call 38; go_must (refine (short_calls (fun _ => True) A2 n2 c2 (ofP fs3 l).1 (ofP fs3 l).2 _ (HI4.out.mono fun _ _ _ => trivial) HCAP4.out).mono ?_; obtain ⟨f, hf⟩ : ∃ f, f = shortN ((ofP fs3 l).1, (ofP fs3 l).2) := ⟨_, rfl⟩; rw [← hf]; have HF := Aside0.mk hf; rintro e w5 ⟨A3, n3, c3, rfl, hcap3, hi3, hb⟩; have HI5 := Aside0.mk hi3.1; have HN5 := Aside0.mk hi3.1.1; have HB5 := Aside0.mk (below_then HB4.out HB4.out.size hb); have HY5 := Aside0.mk (blk_below HY4.out hb); clear hb hi3 hcap3 hf))
        | (go_at_call 43; go_must (refine (level_calls A3 n3 c3 f.1 f.2 _ HI5.out (by rw [HF.out]; exact HSO.out) (by rw [← HN5.out, HF.out]; exact HSL.out) (by rw [HF.out]; exact HNE.out)).mono ?_; obtain ⟨x, hx⟩ : ∃ x, x = lvlN (f.1, f.2) := ⟨_, rfl⟩; rw [← hx]; have HXE := Aside0.mk (show instL vs l = x by rw [HIE.out, hx, HF.out, ← HOF.out]); rintro e w6 ⟨A4, c4, rfl, hl4, hb⟩; have HL6 := Aside0.mk hl4; have HZ6 := Aside0.mk HB5.out.size; have HB6 := Aside0.mk (below_then HB5.out HB5.out.size hb); have HY6 := Aside0.mk (blk_below HY5.out hb); have HYL := Aside0.mk (blk_lt HY5.out); obtain ⟨q0, q1, q2, z0, z1, z2⟩ := row3 HY6.out; clear hb hl4 hx; simp only [lvV])))
      refine bodyPost_ret (results_c rfl _ _ (w.heap.size + 1 + 1) 24 #[.int .i64 x.kind, .int .i64 x.num, .slice A4 x.kids.length c4] (0, 0) _ rfl (set3 HY6.out) Try.underlying24 rfl (by kernel_rfl)) rfl ?_
      have hch := chg_set3 w6 (w.heap.size + 1 + 1) (.int .i64 x.kind) (.int .i64 x.num) (.slice A4 x.kids.length c4)
      have hyl := HYL.out
      have hz6 := HZ6.out
      rw [HXE.out]
      exact ⟨A4, c4, rfl, (HL6.out.same fun b hb hz => hch.block b hz (by rcases hb with hb | hb; exact hb.elim; omega)).mono fun b hb _ => hb.elim .inl fun h => .inr (Nat.le_trans hz6 h), Chg.trans_below HB6.out hch (fun _ e => by omega) HB6.out.size⟩
    · have HE := Aside0.mk (show instL vs l = .mk 0 0 [] by unfold instL; rw [if_neg (by rw [← HN.out, hes]; simp [he])])
      have he' : (e3 != 0) = true := by simp [he]
      clear hes he
      go_upto_region 6 with (first
        | (go_at_call 27; go_must (refine (walk_inst vs Av nv cv (w.heap.size + 1) (G + 1) G _ l (Nat.lt_succ_self _) (good_of_sound HS.out) A c 1 _ _ (LvIn.mono (HIN.out.stay HB2.out) (by omega)) HK2.out HI2.out (by simp)).mono ?_; rintro e w3 ⟨rfl, hi3, hc3⟩; rw [HV3.out] at hi3 ⊢; have HB3 := Aside0.mk (Chg.trans_below HB2.out hc3 (fun _ e => by have := HGZ.out; omega) HB2.out.size); have HY3 := Aside0.mk ((hc3.block _ (blk_lt HY2.out) (by have := HGZ.out; omega)).trans HY2.out); obtain ⟨z0, z1, z2, q0, q1, q2⟩ := row3 HY3.out; clear hi3 hc3)))
      go_wp2
      refine bodyPost_ret (results_c rfl _ _ (w.heap.size + 1 + 1) 24 #[.int .i64 0, .int .i64 0, .slice none 0 0] (0, 0) _ rfl (set3 HY3.out) Try.underlying24 rfl (by kernel_rfl)) rfl ?_
      rw [HE.out]
      exact zero_got _ _ (Chg.trans_below HB3.out (chg_set3 _ _ _ _ _) (fun _ e => by omega) HB3.out.size)
end Go.Proofs.Ytjlhbaohippidaa

/-! VlR -/
namespace Go.Proofs.Ytjlhbaohippidaa
open Go.RowKit Go.Proofs.YtjlhbaohippidaaW.PrintWords Go.RegionInvYtjlhbaohippidaa Go.RegionEYtjlhbaohippidaa
set_option linter.unusedVariables false

def vl9_ops : List Oper := [
  { dst := some 27, op := Go.Op.fieldAddr 24 (Go.Operand.tmp 2) 2, type := 0, pos := "ref.go:233", after := #[], guard := none },
  { dst := some 28, op := Go.Op.load 22 (Go.Operand.tmp 27), type := 22, pos := "ref.go:233", after := #[{ on := 0, ground := Go.Ground.data }], guard := none },
  { dst := some 29, op := Go.Op.indexAddr 22 (Go.Operand.tmp 28) (Go.Operand.const (Go.Value.int Go.IntKind.i64 0)), type := 0, pos := "ref.go:233", after := #[{ on := 1, ground := Go.Ground.data }], guard := none },
  { dst := some 30, op := Go.Op.load 24 (Go.Operand.tmp 29), type := 24, pos := "ref.go:233", after := #[{ on := 2, ground := Go.Ground.data }], guard := none },
  { dst := some 31, op := Go.Op.move (Go.Operand.tmp 1), type := 29, pos := "ref.go:233", after := #[], guard := none },
  { dst := some 32, op := Go.Op.call { callee := Go.Callee.value (Go.Operand.func 35), args := #[Go.Operand.tmp 30, Go.Operand.tmp 31], argTypes := #[24, 29] }, type := 3, pos := "ref.go:233", after := #[{ on := 3, ground := Go.Ground.data }, { on := 4, ground := Go.Ground.data }], guard := none },
  { dst := some 33, op := Go.Op.fieldAddr 24 (Go.Operand.tmp 2) 1, type := 0, pos := "ref.go:233", after := #[], guard := none },
  { dst := some 34, op := Go.Op.load 3 (Go.Operand.tmp 33), type := 3, pos := "ref.go:233", after := #[{ on := 6, ground := Go.Ground.data }], guard := none },
  { dst := some 35, op := Go.Op.binOp Go.BinOp.add 3 (Go.Operand.tmp 32) (Go.Operand.tmp 34) 3, type := 3, pos := "ref.go:233", after := #[{ on := 5, ground := Go.Ground.data }, { on := 7, ground := Go.Ground.data }], guard := none },
  { dst := some 36, op := Go.Op.call { callee := Go.Callee.builtin Go.Builtin.min, args := #[Go.Operand.tmp 35, Go.Operand.const (Go.Value.int Go.IntKind.i64 1099511627776)], argTypes := #[3, 3] }, type := 3, pos := "ref.go:233", after := #[{ on := 8, ground := Go.Ground.data }], guard := none },
  { dst := some 4, op := Go.Op.assign (Go.Operand.tmp 36), type := 3, pos := "ref.go:233", after := #[{ on := 9, ground := Go.Ground.data }, { on := 5, ground := Go.Ground.chain }, { on := 0, ground := Go.Ground.phase }, { on := 1, ground := Go.Ground.phase }, { on := 2, ground := Go.Ground.phase }, { on := 3, ground := Go.Ground.phase }, { on := 4, ground := Go.Ground.phase }, { on := 5, ground := Go.Ground.phase }, { on := 6, ground := Go.Ground.phase }, { on := 7, ground := Go.Ground.phase }, { on := 8, ground := Go.Ground.phase }, { on := 9, ground := Go.Ground.phase }], guard := none }]
def vl9_F (w0 : World) (b : Nat) (k n : Int) (gb off c : Nat) (Av : Option Addr) (nv cv : Nat) (xk0 xn0 : Int) (A0 : Option Addr) (m0 c0 : Nat) (r0 : Int)  : Nat → (Nat → Value) → Value → World → (Nat → Prop) → Prop := fun rix => match rix with
  | 0 => fun _ v _ _ => v = .pointer (some ⟨b, 2, none⟩)
  | 1 => fun _ v _ _ => v = .slice (some ⟨gb, off, none⟩) 1 c
  | 2 => fun _ v _ _ => v = .pointer (some ⟨gb, off, none⟩)
  | 3 => fun _ v _ _ => v = .agg #[.int .i64 xk0, .int .i64 xn0, .slice A0 m0 c0]
  | 4 => fun _ v _ _ => v = .slice Av nv cv
  | 5 => fun _ v _ _ => v = .int .i64 r0
  | 6 => fun _ v _ _ => v = .pointer (some ⟨b, 1, none⟩)
  | 7 => fun _ v _ _ => v = .int .i64 n
  | 8 => fun _ v _ _ => v = .int .i64 (r0 + n)
  | 9 => fun _ v _ _ => v = .int .i64 (min (r0 + n) 1099511627776)
  | 10 => fun _ v _ _ => v = .int .i64 (min (r0 + n) 1099511627776)
  | _ => fun _ _ _ _ => True
def vl9_C : Nat → List Nat := fun rix => match rix with
  | _ => []
theorem vl9_nw1 : nwB vl9_ops.toArray 1 = true := by kernel_rfl
theorem vl9_nw2 : nwB vl9_ops.toArray 2 = true := by kernel_rfl
set_option maxRecDepth 100000 in
set_option maxHeartbeats 8000000 in
theorem vl9_obs (w0 : World) (b : Nat) (k n : Int) (gb off c : Nat) (Av : Option Addr) (nv cv : Nat) (xk0 xn0 : Int) (A0 : Option Addr) (m0 c0 : Nat) (r0 : Int)  (hx2 : w0.heap[b]? = some (.cells #[.int .i64 k, .int .i64 n, .slice (some ⟨gb, off, none⟩) 1 c] 24 (0, 0))) (hgb : gb < b) (hc0 : w0.cell? ⟨gb, off, none⟩ = some (.int .i64 xk0)) (hc1 : w0.cell? ⟨gb, off + 1, none⟩ = some (.int .i64 xn0)) (hc2 : w0.cell? ⟨gb, off + 2, none⟩ = some (.slice A0 m0 c0)) (hof0 : ∀ w, (∀ k, k < b → w.heap[k]? = w0.heap[k]?) → w0.heap.size ≤ w.heap.size → Calls Try.prog 35 #[.agg #[.int .i64 xk0, .int .i64 xn0, .slice A0 m0 c0], .slice Av nv cv] w fun e w' => e = .returned (.int .i64 r0) ∧ Below w.heap.size w w') (hwr : IntKind.i64.wrap (r0 + n) = r0 + n) (Q : Exit → Act → World → Prop) (a0 : Act) (hi1 : a0.tmps.getD 1 undef = .slice Av nv cv) (hi2 : a0.tmps.getD 2 undef = .pointer (some ⟨b, 0, none⟩)) :
    ObsE Try.prog vl9_ops.toArray Q (est2 0 0 (fun _ => False) (fun _ => False)) vl9_C (vl9_F w0 b k n gb off c Av nv cv xk0 xn0 A0 m0 c0 r0 ) a0 w0 vl9_ops.toArray.toList 0 := by
  have nw1 := vl9_nw1
  have nw2 := vl9_nw2
  refine ⟨?_, ?_, ?_, ?_, ?_, ?_, ?_, ?_, ?_, ?_, ?_, trivial⟩
  · refine ⟨⟨fun τ => stableE_det _, leans_not⟩, ?_⟩
    intro a w O hk
    have e2 : a.eval (.tmp 2) = .pointer (some ⟨b, 0, none⟩) := (hk.init 2 (initialB_of_nw nw2)).trans hi2
    exact obE_run (wanted_none rfl) (by unfold execOp; simp only []; rw [e2]; go_simp) rfl
  · refine ⟨⟨fun τ => stableE_det _, leans_not⟩, ?_⟩
    intro a w O hk
    have e27 : a.eval (.tmp 27) = .pointer (some ⟨b, 2, none⟩) := hk.fact 0 _ 27 rfl rfl rfl rfl
    have x2 := hk.world.still hx2 (fun ⟨_, h⟩ => h.elim And.right And.right)
    obtain ⟨p0, p1, p2, -, -, -⟩ := row3 x2
    have hfx : ∀ k, k < b → w.heap[k]? = w0.heap[k]? := fun k hkb => hk.fix k (est2_fix (by have := blk_lt hx2; omega) (fun h => h) (fun h => h))
    have hcc : ∀ j, w.cell? ⟨gb, j, none⟩ = w0.cell? ⟨gb, j, none⟩ := fun j => cell_same (hfx _ hgb)
    have q0 := (hcc _).trans hc0
    have q1 := (hcc _).trans hc1
    have q2 := (hcc _).trans hc2
    exact obE_run (wanted_none rfl) (by unfold execOp; simp only []; rw [e27]; go_simp) rfl
  · refine ⟨⟨fun τ => stableE_det _, leans_not⟩, ?_⟩
    intro a w O hk
    have e28 : a.eval (.tmp 28) = .slice (some ⟨gb, off, none⟩) 1 c := hk.fact 1 _ 28 rfl rfl rfl rfl
    have x2 := hk.world.still hx2 (fun ⟨_, h⟩ => h.elim And.right And.right)
    obtain ⟨p0, p1, p2, -, -, -⟩ := row3 x2
    have hfx : ∀ k, k < b → w.heap[k]? = w0.heap[k]? := fun k hkb => hk.fix k (est2_fix (by have := blk_lt hx2; omega) (fun h => h) (fun h => h))
    have hcc : ∀ j, w.cell? ⟨gb, j, none⟩ = w0.cell? ⟨gb, j, none⟩ := fun j => cell_same (hfx _ hgb)
    have q0 := (hcc _).trans hc0
    have q1 := (hcc _).trans hc1
    have q2 := (hcc _).trans hc2
    exact obE_run (wanted_none rfl) (by unfold execOp; simp only []; rw [e28]; go_simp) rfl
  · refine ⟨⟨fun τ => stableE_det _, leans_not⟩, ?_⟩
    intro a w O hk
    have e29 : a.eval (.tmp 29) = .pointer (some ⟨gb, off, none⟩) := hk.fact 2 _ 29 rfl rfl rfl rfl
    have x2 := hk.world.still hx2 (fun ⟨_, h⟩ => h.elim And.right And.right)
    obtain ⟨p0, p1, p2, -, -, -⟩ := row3 x2
    have hfx : ∀ k, k < b → w.heap[k]? = w0.heap[k]? := fun k hkb => hk.fix k (est2_fix (by have := blk_lt hx2; omega) (fun h => h) (fun h => h))
    have hcc : ∀ j, w.cell? ⟨gb, j, none⟩ = w0.cell? ⟨gb, j, none⟩ := fun j => cell_same (hfx _ hgb)
    have q0 := (hcc _).trans hc0
    have q1 := (hcc _).trans hc1
    have q2 := (hcc _).trans hc2
    exact obE_run (wanted_none rfl) (by unfold execOp; simp only []; rw [e29]; go_simp) rfl
  · refine ⟨⟨fun τ => stableE_det _, leans_not⟩, ?_⟩
    intro a w O hk
    have e1 : a.eval (.tmp 1) = .slice Av nv cv := (hk.init 1 (initialB_of_nw nw1)).trans hi1
    exact toE (ob_move rfl e1 (wanted_none rfl) rfl)
  · refine ⟨⟨fun τ => stableE_det _, leans_not⟩, ?_⟩
    intro a w O hk
    have e30 : a.eval (.tmp 30) = .agg #[.int .i64 xk0, .int .i64 xn0, .slice A0 m0 c0] := hk.fact 3 _ 30 rfl rfl rfl rfl
    have e31 : a.eval (.tmp 31) = .slice Av nv cv := hk.fact 4 _ 31 rfl rfl rfl rfl
    have x2 := hk.world.still hx2 (fun ⟨_, h⟩ => h.elim And.right And.right)
    obtain ⟨p0, p1, p2, -, -, -⟩ := row3 x2
    have hfx : ∀ k, k < b → w.heap[k]? = w0.heap[k]? := fun k hkb => hk.fix k (est2_fix (by have := blk_lt hx2; omega) (fun h => h) (fun h => h))
    have hcc : ∀ j, w.cell? ⟨gb, j, none⟩ = w0.cell? ⟨gb, j, none⟩ := fun j => cell_same (hfx _ hgb)
    have q0 := (hcc _).trans hc0
    have q1 := (hcc _).trans hc1
    have q2 := (hcc _).trans hc2
    exact obE_callV #[.agg #[.int .i64 xk0, .int .i64 xn0, .slice A0 m0 c0], .slice Av nv cv] rfl rfl rfl rfl (by simp only [List.map_cons, List.map_nil]; rw [e30, e31]) (wanted_none rfl) (hof0 w hfx hk.world.size)
  · refine ⟨⟨fun τ => stableE_det _, leans_not⟩, ?_⟩
    intro a w O hk
    have e2 : a.eval (.tmp 2) = .pointer (some ⟨b, 0, none⟩) := (hk.init 2 (initialB_of_nw nw2)).trans hi2
    exact obE_run (wanted_none rfl) (by unfold execOp; simp only []; rw [e2]; go_simp) rfl
  · refine ⟨⟨fun τ => stableE_det _, leans_not⟩, ?_⟩
    intro a w O hk
    have e33 : a.eval (.tmp 33) = .pointer (some ⟨b, 1, none⟩) := hk.fact 6 _ 33 rfl rfl rfl rfl
    have x2 := hk.world.still hx2 (fun ⟨_, h⟩ => h.elim And.right And.right)
    obtain ⟨p0, p1, p2, -, -, -⟩ := row3 x2
    have hfx : ∀ k, k < b → w.heap[k]? = w0.heap[k]? := fun k hkb => hk.fix k (est2_fix (by have := blk_lt hx2; omega) (fun h => h) (fun h => h))
    have hcc : ∀ j, w.cell? ⟨gb, j, none⟩ = w0.cell? ⟨gb, j, none⟩ := fun j => cell_same (hfx _ hgb)
    have q0 := (hcc _).trans hc0
    have q1 := (hcc _).trans hc1
    have q2 := (hcc _).trans hc2
    exact obE_run (wanted_none rfl) (by unfold execOp; simp only []; rw [e33]; go_simp) rfl
  · refine ⟨⟨fun τ => stableE_det _, leans_not⟩, ?_⟩
    intro a w O hk
    have e32 : a.eval (.tmp 32) = .int .i64 r0 := hk.fact 5 _ 32 rfl rfl rfl rfl
    have e34 : a.eval (.tmp 34) = .int .i64 n := hk.fact 7 _ 34 rfl rfl rfl rfl
    have x2 := hk.world.still hx2 (fun ⟨_, h⟩ => h.elim And.right And.right)
    obtain ⟨p0, p1, p2, -, -, -⟩ := row3 x2
    have hfx : ∀ k, k < b → w.heap[k]? = w0.heap[k]? := fun k hkb => hk.fix k (est2_fix (by have := blk_lt hx2; omega) (fun h => h) (fun h => h))
    have hcc : ∀ j, w.cell? ⟨gb, j, none⟩ = w0.cell? ⟨gb, j, none⟩ := fun j => cell_same (hfx _ hgb)
    have q0 := (hcc _).trans hc0
    have q1 := (hcc _).trans hc1
    have q2 := (hcc _).trans hc2
    exact obE_run (wanted_none rfl) (by unfold execOp; simp only []; rw [e32, e34]; go_simp) rfl
  · refine ⟨⟨fun τ => stableE_det _, leans_not⟩, ?_⟩
    intro a w O hk
    have e35 : a.eval (.tmp 35) = .int .i64 (r0 + n) := hk.fact 8 _ 35 rfl rfl rfl rfl
    exact obE_minInt rfl e35 rfl (wanted_none rfl) rfl
  · refine ⟨⟨fun τ => stableE_det _, leans_not⟩, ?_⟩
    intro a w O hk
    have e36 : a.eval (.tmp 36) = .int .i64 (min (r0 + n) 1099511627776) := hk.fact 9 _ 36 rfl rfl rfl rfl
    exact toE (ob_assign rfl e36 (wanted_none rfl) rfl)
set_option maxRecDepth 100000 in
set_option maxHeartbeats 8000000 in
theorem vl9_region {Q : Exit → Act → World → Prop} {id : Nat} (w0 : World) (b : Nat) (k n : Int) (gb off c : Nat) (Av : Option Addr) (nv cv : Nat) (xk0 xn0 : Int) (A0 : Option Addr) (m0 c0 : Nat) (r0 : Int)  {s0 s3 s4 s5 s6 s7 s8 s9 s10 s11 s12 s13 s14 s15 s16 s17 s18 s19 s20 s21 s22 s23 s24 s25 s26 s27 s28 s29 s30 s31 s32 s33 s34 s35 s36 s37 s38 s39 s40 s41 s42 s43 s44 s45 s46 s47 s48 s49 : Value} (hx2 : w0.heap[b]? = some (.cells #[.int .i64 k, .int .i64 n, .slice (some ⟨gb, off, none⟩) 1 c] 24 (0, 0))) (hgb : gb < b) (hc0 : w0.cell? ⟨gb, off, none⟩ = some (.int .i64 xk0)) (hc1 : w0.cell? ⟨gb, off + 1, none⟩ = some (.int .i64 xn0)) (hc2 : w0.cell? ⟨gb, off + 2, none⟩ = some (.slice A0 m0 c0)) (hof0 : ∀ w, (∀ k, k < b → w.heap[k]? = w0.heap[k]?) → w0.heap.size ≤ w.heap.size → Calls Try.prog 35 #[.agg #[.int .i64 xk0, .int .i64 xn0, .slice A0 m0 c0], .slice Av nv cv] w fun e w' => e = .returned (.int .i64 r0) ∧ Below w.heap.size w w') (hwr : IntKind.i64.wrap (r0 + n) = r0 + n)
    (hend : ∀ (w' : World), Chg (fun k => False ∨ False) w0 w' → Q .normal { tmps := (s0 :: (.slice Av nv cv : Value) :: (.pointer (some ⟨b, 0, none⟩) : Value) :: s3 :: (.int .i64 (min (r0 + n) 1099511627776) : Value) :: s5 :: s6 :: s7 :: s8 :: s9 :: s10 :: s11 :: s12 :: s13 :: s14 :: s15 :: s16 :: s17 :: s18 :: s19 :: s20 :: s21 :: s22 :: s23 :: s24 :: s25 :: s26 :: (.pointer (some ⟨b, 2, none⟩) : Value) :: (.slice (some ⟨gb, off, none⟩) 1 c : Value) :: (.pointer (some ⟨gb, off, none⟩) : Value) :: (.agg #[.int .i64 xk0, .int .i64 xn0, .slice A0 m0 c0] : Value) :: (.slice Av nv cv : Value) :: (.int .i64 r0 : Value) :: (.pointer (some ⟨b, 1, none⟩) : Value) :: (.int .i64 n : Value) :: (.int .i64 (r0 + n) : Value) :: (.int .i64 (min (r0 + n) 1099511627776) : Value) :: s37 :: s38 :: s39 :: s40 :: s41 :: s42 :: s43 :: s44 :: s45 :: s46 :: s47 :: s48 :: s49 :: ([] : List Value)).toArray, defers := [] } w') :
    (Code.region id vl9_ops.toArray true).wp Try.prog Q { tmps := (s0 :: (.slice Av nv cv : Value) :: (.pointer (some ⟨b, 0, none⟩) : Value) :: s3 :: s4 :: s5 :: s6 :: s7 :: s8 :: s9 :: s10 :: s11 :: s12 :: s13 :: s14 :: s15 :: s16 :: s17 :: s18 :: s19 :: s20 :: s21 :: s22 :: s23 :: s24 :: s25 :: s26 :: s27 :: s28 :: s29 :: s30 :: s31 :: s32 :: s33 :: s34 :: s35 :: s36 :: s37 :: s38 :: s39 :: s40 :: s41 :: s42 :: s43 :: s44 :: s45 :: s46 :: s47 :: s48 :: s49 :: ([] : List Value)).toArray, defers := [] } w0 := by
  refine wp_region_est (by kernel_rfl) (est2 0 0 (fun _ => False) (fun _ => False)) vl9_C (vl9_F w0 b k n gb off c Av nv cv xk0 xn0 A0 m0 c0 r0 ) (est2_dis (fun _ h _ => h)) (est2_range (fun _ h => h.elim) (fun _ h => h.elim)) (by rfl) (by kernel_rfl) (vl9_obs w0.drew b k n gb off c Av nv cv xk0 xn0 A0 m0 c0 r0  hx2 hgb hc0 hc1 hc2 hof0 hwr _ _ rfl rfl) ?_
  intro a w' O hd hs hb hf hf2 ha hsame
  have hx : ∀ (qi : Nat) (qv : Value), nwB vl9_ops.toArray qi = true → (s0 :: (.slice Av nv cv : Value) :: (.pointer (some ⟨b, 0, none⟩) : Value) :: s3 :: s4 :: s5 :: s6 :: s7 :: s8 :: s9 :: s10 :: s11 :: s12 :: s13 :: s14 :: s15 :: s16 :: s17 :: s18 :: s19 :: s20 :: s21 :: s22 :: s23 :: s24 :: s25 :: s26 :: s27 :: s28 :: s29 :: s30 :: s31 :: s32 :: s33 :: s34 :: s35 :: s36 :: s37 :: s38 :: s39 :: s40 :: s41 :: s42 :: s43 :: s44 :: s45 :: s46 :: s47 :: s48 :: s49 :: ([] : List Value)).toArray.getD qi undef = qv → a.tmps.getD qi undef = qv := fun qi qv h e => (hsame qi (nwB.spec h)).trans e
  have x0 := hx 0 s0 (by kernel_rfl) rfl
  have x1 := hx 1 (.slice Av nv cv) (by kernel_rfl) rfl
  have x2 := hx 2 (.pointer (some ⟨b, 0, none⟩)) (by kernel_rfl) rfl
  have x3 := hx 3 s3 (by kernel_rfl) rfl
  have x4 : a.tmps.getD 4 undef = .int .i64 (min (r0 + n) 1099511627776) := (hf 10 _ 4 rfl rfl (by decide)).1
  have x5 := hx 5 s5 (by kernel_rfl) rfl
  have x6 := hx 6 s6 (by kernel_rfl) rfl
  have x7 := hx 7 s7 (by kernel_rfl) rfl
  have x8 := hx 8 s8 (by kernel_rfl) rfl
  have x9 := hx 9 s9 (by kernel_rfl) rfl
  have x10 := hx 10 s10 (by kernel_rfl) rfl
  have x11 := hx 11 s11 (by kernel_rfl) rfl
  have x12 := hx 12 s12 (by kernel_rfl) rfl
  have x13 := hx 13 s13 (by kernel_rfl) rfl
  have x14 := hx 14 s14 (by kernel_rfl) rfl
  have x15 := hx 15 s15 (by kernel_rfl) rfl
  have x16 := hx 16 s16 (by kernel_rfl) rfl
  have x17 := hx 17 s17 (by kernel_rfl) rfl
  have x18 := hx 18 s18 (by kernel_rfl) rfl
  have x19 := hx 19 s19 (by kernel_rfl) rfl
  have x20 := hx 20 s20 (by kernel_rfl) rfl
  have x21 := hx 21 s21 (by kernel_rfl) rfl
  have x22 := hx 22 s22 (by kernel_rfl) rfl
  have x23 := hx 23 s23 (by kernel_rfl) rfl
  have x24 := hx 24 s24 (by kernel_rfl) rfl
  have x25 := hx 25 s25 (by kernel_rfl) rfl
  have x26 := hx 26 s26 (by kernel_rfl) rfl
  have x27 : a.tmps.getD 27 undef = .pointer (some ⟨b, 2, none⟩) := (hf 0 _ 27 rfl rfl (by decide)).1
  have x28 : a.tmps.getD 28 undef = .slice (some ⟨gb, off, none⟩) 1 c := (hf 1 _ 28 rfl rfl (by decide)).1
  have x29 : a.tmps.getD 29 undef = .pointer (some ⟨gb, off, none⟩) := (hf 2 _ 29 rfl rfl (by decide)).1
  have x30 : a.tmps.getD 30 undef = .agg #[.int .i64 xk0, .int .i64 xn0, .slice A0 m0 c0] := (hf 3 _ 30 rfl rfl (by decide)).1
  have x31 : a.tmps.getD 31 undef = .slice Av nv cv := (hf 4 _ 31 rfl rfl (by decide)).1
  have x32 : a.tmps.getD 32 undef = .int .i64 r0 := (hf 5 _ 32 rfl rfl (by decide)).1
  have x33 : a.tmps.getD 33 undef = .pointer (some ⟨b, 1, none⟩) := (hf 6 _ 33 rfl rfl (by decide)).1
  have x34 : a.tmps.getD 34 undef = .int .i64 n := (hf 7 _ 34 rfl rfl (by decide)).1
  have x35 : a.tmps.getD 35 undef = .int .i64 (r0 + n) := (hf 8 _ 35 rfl rfl (by decide)).1
  have x36 : a.tmps.getD 36 undef = .int .i64 (min (r0 + n) 1099511627776) := (hf 9 _ 36 rfl rfl (by decide)).1
  have x37 := hx 37 s37 (by kernel_rfl) rfl
  have x38 := hx 38 s38 (by kernel_rfl) rfl
  have x39 := hx 39 s39 (by kernel_rfl) rfl
  have x40 := hx 40 s40 (by kernel_rfl) rfl
  have x41 := hx 41 s41 (by kernel_rfl) rfl
  have x42 := hx 42 s42 (by kernel_rfl) rfl
  have x43 := hx 43 s43 (by kernel_rfl) rfl
  have x44 := hx 44 s44 (by kernel_rfl) rfl
  have x45 := hx 45 s45 (by kernel_rfl) rfl
  have x46 := hx 46 s46 (by kernel_rfl) rfl
  have x47 := hx 47 s47 (by kernel_rfl) rfl
  have x48 := hx 48 s48 (by kernel_rfl) rfl
  have x49 := hx 49 s49 (by kernel_rfl) rfl
  have hl : a.tmps = (s0 :: (.slice Av nv cv : Value) :: (.pointer (some ⟨b, 0, none⟩) : Value) :: s3 :: (.int .i64 (min (r0 + n) 1099511627776) : Value) :: s5 :: s6 :: s7 :: s8 :: s9 :: s10 :: s11 :: s12 :: s13 :: s14 :: s15 :: s16 :: s17 :: s18 :: s19 :: s20 :: s21 :: s22 :: s23 :: s24 :: s25 :: s26 :: (.pointer (some ⟨b, 2, none⟩) : Value) :: (.slice (some ⟨gb, off, none⟩) 1 c : Value) :: (.pointer (some ⟨gb, off, none⟩) : Value) :: (.agg #[.int .i64 xk0, .int .i64 xn0, .slice A0 m0 c0] : Value) :: (.slice Av nv cv : Value) :: (.int .i64 r0 : Value) :: (.pointer (some ⟨b, 1, none⟩) : Value) :: (.int .i64 n : Value) :: (.int .i64 (r0 + n) : Value) :: (.int .i64 (min (r0 + n) 1099511627776) : Value) :: s37 :: s38 :: s39 :: s40 :: s41 :: s42 :: s43 :: s44 :: s45 :: s46 :: s47 :: s48 :: s49 :: ([] : List Value)).toArray := by
    have h := lit a.tmps 50 hs
    have e : ((List.range 50).map (fun i => a.tmps.getD i undef)).toArray = ((a.tmps.getD 0 undef : Value) :: (a.tmps.getD 1 undef : Value) :: (a.tmps.getD 2 undef : Value) :: (a.tmps.getD 3 undef : Value) :: (a.tmps.getD 4 undef : Value) :: (a.tmps.getD 5 undef : Value) :: (a.tmps.getD 6 undef : Value) :: (a.tmps.getD 7 undef : Value) :: (a.tmps.getD 8 undef : Value) :: (a.tmps.getD 9 undef : Value) :: (a.tmps.getD 10 undef : Value) :: (a.tmps.getD 11 undef : Value) :: (a.tmps.getD 12 undef : Value) :: (a.tmps.getD 13 undef : Value) :: (a.tmps.getD 14 undef : Value) :: (a.tmps.getD 15 undef : Value) :: (a.tmps.getD 16 undef : Value) :: (a.tmps.getD 17 undef : Value) :: (a.tmps.getD 18 undef : Value) :: (a.tmps.getD 19 undef : Value) :: (a.tmps.getD 20 undef : Value) :: (a.tmps.getD 21 undef : Value) :: (a.tmps.getD 22 undef : Value) :: (a.tmps.getD 23 undef : Value) :: (a.tmps.getD 24 undef : Value) :: (a.tmps.getD 25 undef : Value) :: (a.tmps.getD 26 undef : Value) :: (a.tmps.getD 27 undef : Value) :: (a.tmps.getD 28 undef : Value) :: (a.tmps.getD 29 undef : Value) :: (a.tmps.getD 30 undef : Value) :: (a.tmps.getD 31 undef : Value) :: (a.tmps.getD 32 undef : Value) :: (a.tmps.getD 33 undef : Value) :: (a.tmps.getD 34 undef : Value) :: (a.tmps.getD 35 undef : Value) :: (a.tmps.getD 36 undef : Value) :: (a.tmps.getD 37 undef : Value) :: (a.tmps.getD 38 undef : Value) :: (a.tmps.getD 39 undef : Value) :: (a.tmps.getD 40 undef : Value) :: (a.tmps.getD 41 undef : Value) :: (a.tmps.getD 42 undef : Value) :: (a.tmps.getD 43 undef : Value) :: (a.tmps.getD 44 undef : Value) :: (a.tmps.getD 45 undef : Value) :: (a.tmps.getD 46 undef : Value) :: (a.tmps.getD 47 undef : Value) :: (a.tmps.getD 48 undef : Value) :: (a.tmps.getD 49 undef : Value) :: ([] : List Value)).toArray := rfl
    rw [e, x0, x1, x2, x3, x4, x5, x6, x7, x8, x9, x10, x11, x12, x13, x14, x15, x16, x17, x18, x19, x20, x21, x22, x23, x24, x25, x26, x27, x28, x29, x30, x31, x32, x33, x34, x35, x36, x37, x38, x39, x40, x41, x42, x43, x44, x45, x46, x47, x48, x49] at h
    exact h
  obtain ⟨tmps, defers⟩ := a
  obtain rfl : defers = [] := hd
  have hl' : tmps = _ := hl
  rw [hl']
  have hb' := est2_chg hb
  exact hend w' ⟨hb'.os, hb'.tape, hb'.output, hb'.size, hb'.block⟩

def vl10_ops : List Oper := [
  { dst := some 37, op := Go.Op.fieldAddr 24 (Go.Operand.tmp 2) 2, type := 0, pos := "ref.go:235", after := #[], guard := none },
  { dst := some 38, op := Go.Op.load 22 (Go.Operand.tmp 37), type := 22, pos := "ref.go:235", after := #[{ on := 0, ground := Go.Ground.data }], guard := none },
  { dst := some 39, op := Go.Op.indexAddr 22 (Go.Operand.tmp 38) (Go.Operand.const (Go.Value.int Go.IntKind.i64 0)), type := 0, pos := "ref.go:235", after := #[{ on := 1, ground := Go.Ground.data }], guard := none },
  { dst := some 40, op := Go.Op.load 24 (Go.Operand.tmp 39), type := 24, pos := "ref.go:235", after := #[{ on := 2, ground := Go.Ground.data }], guard := none },
  { dst := some 41, op := Go.Op.move (Go.Operand.tmp 1), type := 29, pos := "ref.go:235", after := #[], guard := none },
  { dst := some 42, op := Go.Op.call { callee := Go.Callee.value (Go.Operand.func 35), args := #[Go.Operand.tmp 40, Go.Operand.tmp 41], argTypes := #[24, 29] }, type := 3, pos := "ref.go:235", after := #[{ on := 3, ground := Go.Ground.data }, { on := 4, ground := Go.Ground.data }], guard := none },
  { dst := some 43, op := Go.Op.fieldAddr 24 (Go.Operand.tmp 2) 2, type := 0, pos := "ref.go:235", after := #[], guard := none },
  { dst := some 44, op := Go.Op.load 22 (Go.Operand.tmp 43), type := 22, pos := "ref.go:235", after := #[{ on := 6, ground := Go.Ground.data }], guard := none },
  { dst := some 45, op := Go.Op.indexAddr 22 (Go.Operand.tmp 44) (Go.Operand.const (Go.Value.int Go.IntKind.i64 1)), type := 0, pos := "ref.go:235", after := #[{ on := 7, ground := Go.Ground.data }], guard := none },
  { dst := some 46, op := Go.Op.load 24 (Go.Operand.tmp 45), type := 24, pos := "ref.go:235", after := #[{ on := 8, ground := Go.Ground.data }], guard := none },
  { dst := some 47, op := Go.Op.move (Go.Operand.tmp 1), type := 29, pos := "ref.go:235", after := #[], guard := none },
  { dst := some 48, op := Go.Op.call { callee := Go.Callee.value (Go.Operand.func 35), args := #[Go.Operand.tmp 46, Go.Operand.tmp 47], argTypes := #[24, 29] }, type := 3, pos := "ref.go:235", after := #[{ on := 9, ground := Go.Ground.data }, { on := 10, ground := Go.Ground.data }, { on := 5, ground := Go.Ground.chain }], guard := none },
  { dst := some 49, op := Go.Op.call { callee := Go.Callee.builtin Go.Builtin.max, args := #[Go.Operand.tmp 42, Go.Operand.tmp 48], argTypes := #[3, 3] }, type := 3, pos := "ref.go:235", after := #[{ on := 5, ground := Go.Ground.data }, { on := 11, ground := Go.Ground.data }], guard := none },
  { dst := some 4, op := Go.Op.assign (Go.Operand.tmp 49), type := 3, pos := "ref.go:235", after := #[{ on := 12, ground := Go.Ground.data }, { on := 11, ground := Go.Ground.chain }, { on := 0, ground := Go.Ground.phase }, { on := 1, ground := Go.Ground.phase }, { on := 2, ground := Go.Ground.phase }, { on := 3, ground := Go.Ground.phase }, { on := 4, ground := Go.Ground.phase }, { on := 5, ground := Go.Ground.phase }, { on := 6, ground := Go.Ground.phase }, { on := 7, ground := Go.Ground.phase }, { on := 8, ground := Go.Ground.phase }, { on := 9, ground := Go.Ground.phase }, { on := 10, ground := Go.Ground.phase }, { on := 11, ground := Go.Ground.phase }, { on := 12, ground := Go.Ground.phase }], guard := none }]
def vl10_F (w0 : World) (b : Nat) (k n : Int) (gb off c : Nat) (Av : Option Addr) (nv cv : Nat) (xk0 xn0 : Int) (A0 : Option Addr) (m0 c0 : Nat) (r0 : Int) (xk1 xn1 : Int) (A1 : Option Addr) (m1 c1 : Nat) (r1 : Int)  : Nat → (Nat → Value) → Value → World → (Nat → Prop) → Prop := fun rix => match rix with
  | 0 => fun _ v _ _ => v = .pointer (some ⟨b, 2, none⟩)
  | 1 => fun _ v _ _ => v = .slice (some ⟨gb, off, none⟩) 2 c
  | 2 => fun _ v _ _ => v = .pointer (some ⟨gb, off, none⟩)
  | 3 => fun _ v _ _ => v = .agg #[.int .i64 xk0, .int .i64 xn0, .slice A0 m0 c0]
  | 4 => fun _ v _ _ => v = .slice Av nv cv
  | 5 => fun _ v _ _ => v = .int .i64 r0
  | 6 => fun _ v _ _ => v = .pointer (some ⟨b, 2, none⟩)
  | 7 => fun _ v _ _ => v = .slice (some ⟨gb, off, none⟩) 2 c
  | 8 => fun _ v _ _ => v = .pointer (some ⟨gb, off + 3, none⟩)
  | 9 => fun _ v _ _ => v = .agg #[.int .i64 xk1, .int .i64 xn1, .slice A1 m1 c1]
  | 10 => fun _ v _ _ => v = .slice Av nv cv
  | 11 => fun _ v _ _ => v = .int .i64 r1
  | 12 => fun _ v _ _ => v = .int .i64 (max r0 r1)
  | 13 => fun _ v _ _ => v = .int .i64 (max r0 r1)
  | _ => fun _ _ _ _ => True
def vl10_C : Nat → List Nat := fun rix => match rix with
  | _ => []
theorem vl10_nw1 : nwB vl10_ops.toArray 1 = true := by kernel_rfl
theorem vl10_nw2 : nwB vl10_ops.toArray 2 = true := by kernel_rfl
set_option maxRecDepth 100000 in
set_option maxHeartbeats 8000000 in
theorem vl10_obs (w0 : World) (b : Nat) (k n : Int) (gb off c : Nat) (Av : Option Addr) (nv cv : Nat) (xk0 xn0 : Int) (A0 : Option Addr) (m0 c0 : Nat) (r0 : Int) (xk1 xn1 : Int) (A1 : Option Addr) (m1 c1 : Nat) (r1 : Int)  (hx2 : w0.heap[b]? = some (.cells #[.int .i64 k, .int .i64 n, .slice (some ⟨gb, off, none⟩) 2 c] 24 (0, 0))) (hgb : gb < b) (hc0 : w0.cell? ⟨gb, off, none⟩ = some (.int .i64 xk0)) (hc1 : w0.cell? ⟨gb, off + 1, none⟩ = some (.int .i64 xn0)) (hc2 : w0.cell? ⟨gb, off + 2, none⟩ = some (.slice A0 m0 c0)) (hc3 : w0.cell? ⟨gb, off + 3, none⟩ = some (.int .i64 xk1)) (hc4 : w0.cell? ⟨gb, off + 4, none⟩ = some (.int .i64 xn1)) (hc5 : w0.cell? ⟨gb, off + 5, none⟩ = some (.slice A1 m1 c1)) (hof0 : ∀ w, (∀ k, k < b → w.heap[k]? = w0.heap[k]?) → w0.heap.size ≤ w.heap.size → Calls Try.prog 35 #[.agg #[.int .i64 xk0, .int .i64 xn0, .slice A0 m0 c0], .slice Av nv cv] w fun e w' => e = .returned (.int .i64 r0) ∧ Below w.heap.size w w') (hof1 : ∀ w, (∀ k, k < b → w.heap[k]? = w0.heap[k]?) → w0.heap.size ≤ w.heap.size → Calls Try.prog 35 #[.agg #[.int .i64 xk1, .int .i64 xn1, .slice A1 m1 c1], .slice Av nv cv] w fun e w' => e = .returned (.int .i64 r1) ∧ Below w.heap.size w w')  (Q : Exit → Act → World → Prop) (a0 : Act) (hi1 : a0.tmps.getD 1 undef = .slice Av nv cv) (hi2 : a0.tmps.getD 2 undef = .pointer (some ⟨b, 0, none⟩)) :
    ObsE Try.prog vl10_ops.toArray Q (est2 0 0 (fun _ => False) (fun _ => False)) vl10_C (vl10_F w0 b k n gb off c Av nv cv xk0 xn0 A0 m0 c0 r0 xk1 xn1 A1 m1 c1 r1 ) a0 w0 vl10_ops.toArray.toList 0 := by
  have nw1 := vl10_nw1
  have nw2 := vl10_nw2
  refine ⟨?_, ?_, ?_, ?_, ?_, ?_, ?_, ?_, ?_, ?_, ?_, ?_, ?_, ?_, trivial⟩
  · refine ⟨⟨fun τ => stableE_det _, leans_not⟩, ?_⟩
    intro a w O hk
    have e2 : a.eval (.tmp 2) = .pointer (some ⟨b, 0, none⟩) := (hk.init 2 (initialB_of_nw nw2)).trans hi2
    exact obE_run (wanted_none rfl) (by unfold execOp; simp only []; rw [e2]; go_simp) rfl
  · refine ⟨⟨fun τ => stableE_det _, leans_not⟩, ?_⟩
    intro a w O hk
    have e37 : a.eval (.tmp 37) = .pointer (some ⟨b, 2, none⟩) := hk.fact 0 _ 37 rfl rfl rfl rfl
    have x2 := hk.world.still hx2 (fun ⟨_, h⟩ => h.elim And.right And.right)
    obtain ⟨p0, p1, p2, -, -, -⟩ := row3 x2
    have hfx : ∀ k, k < b → w.heap[k]? = w0.heap[k]? := fun k hkb => hk.fix k (est2_fix (by have := blk_lt hx2; omega) (fun h => h) (fun h => h))
    have hcc : ∀ j, w.cell? ⟨gb, j, none⟩ = w0.cell? ⟨gb, j, none⟩ := fun j => cell_same (hfx _ hgb)
    have q0 := (hcc _).trans hc0
    have q1 := (hcc _).trans hc1
    have q2 := (hcc _).trans hc2
    have q3 := (hcc _).trans hc3
    have q4 := (hcc _).trans hc4
    have q5 := (hcc _).trans hc5
    exact obE_run (wanted_none rfl) (by unfold execOp; simp only []; rw [e37]; go_simp) rfl
  · refine ⟨⟨fun τ => stableE_det _, leans_not⟩, ?_⟩
    intro a w O hk
    have e38 : a.eval (.tmp 38) = .slice (some ⟨gb, off, none⟩) 2 c := hk.fact 1 _ 38 rfl rfl rfl rfl
    have x2 := hk.world.still hx2 (fun ⟨_, h⟩ => h.elim And.right And.right)
    obtain ⟨p0, p1, p2, -, -, -⟩ := row3 x2
    have hfx : ∀ k, k < b → w.heap[k]? = w0.heap[k]? := fun k hkb => hk.fix k (est2_fix (by have := blk_lt hx2; omega) (fun h => h) (fun h => h))
    have hcc : ∀ j, w.cell? ⟨gb, j, none⟩ = w0.cell? ⟨gb, j, none⟩ := fun j => cell_same (hfx _ hgb)
    have q0 := (hcc _).trans hc0
    have q1 := (hcc _).trans hc1
    have q2 := (hcc _).trans hc2
    have q3 := (hcc _).trans hc3
    have q4 := (hcc _).trans hc4
    have q5 := (hcc _).trans hc5
    exact obE_run (wanted_none rfl) (by unfold execOp; simp only []; rw [e38]; go_simp) rfl
  · refine ⟨⟨fun τ => stableE_det _, leans_not⟩, ?_⟩
    intro a w O hk
    have e39 : a.eval (.tmp 39) = .pointer (some ⟨gb, off, none⟩) := hk.fact 2 _ 39 rfl rfl rfl rfl
    have x2 := hk.world.still hx2 (fun ⟨_, h⟩ => h.elim And.right And.right)
    obtain ⟨p0, p1, p2, -, -, -⟩ := row3 x2
    have hfx : ∀ k, k < b → w.heap[k]? = w0.heap[k]? := fun k hkb => hk.fix k (est2_fix (by have := blk_lt hx2; omega) (fun h => h) (fun h => h))
    have hcc : ∀ j, w.cell? ⟨gb, j, none⟩ = w0.cell? ⟨gb, j, none⟩ := fun j => cell_same (hfx _ hgb)
    have q0 := (hcc _).trans hc0
    have q1 := (hcc _).trans hc1
    have q2 := (hcc _).trans hc2
    have q3 := (hcc _).trans hc3
    have q4 := (hcc _).trans hc4
    have q5 := (hcc _).trans hc5
    exact obE_run (wanted_none rfl) (by unfold execOp; simp only []; rw [e39]; go_simp) rfl
  · refine ⟨⟨fun τ => stableE_det _, leans_not⟩, ?_⟩
    intro a w O hk
    have e1 : a.eval (.tmp 1) = .slice Av nv cv := (hk.init 1 (initialB_of_nw nw1)).trans hi1
    exact toE (ob_move rfl e1 (wanted_none rfl) rfl)
  · refine ⟨⟨fun τ => stableE_det _, leans_not⟩, ?_⟩
    intro a w O hk
    have e40 : a.eval (.tmp 40) = .agg #[.int .i64 xk0, .int .i64 xn0, .slice A0 m0 c0] := hk.fact 3 _ 40 rfl rfl rfl rfl
    have e41 : a.eval (.tmp 41) = .slice Av nv cv := hk.fact 4 _ 41 rfl rfl rfl rfl
    have x2 := hk.world.still hx2 (fun ⟨_, h⟩ => h.elim And.right And.right)
    obtain ⟨p0, p1, p2, -, -, -⟩ := row3 x2
    have hfx : ∀ k, k < b → w.heap[k]? = w0.heap[k]? := fun k hkb => hk.fix k (est2_fix (by have := blk_lt hx2; omega) (fun h => h) (fun h => h))
    have hcc : ∀ j, w.cell? ⟨gb, j, none⟩ = w0.cell? ⟨gb, j, none⟩ := fun j => cell_same (hfx _ hgb)
    have q0 := (hcc _).trans hc0
    have q1 := (hcc _).trans hc1
    have q2 := (hcc _).trans hc2
    have q3 := (hcc _).trans hc3
    have q4 := (hcc _).trans hc4
    have q5 := (hcc _).trans hc5
    exact obE_callV #[.agg #[.int .i64 xk0, .int .i64 xn0, .slice A0 m0 c0], .slice Av nv cv] rfl rfl rfl rfl (by simp only [List.map_cons, List.map_nil]; rw [e40, e41]) (wanted_none rfl) (hof0 w hfx hk.world.size)
  · refine ⟨⟨fun τ => stableE_det _, leans_not⟩, ?_⟩
    intro a w O hk
    have e2 : a.eval (.tmp 2) = .pointer (some ⟨b, 0, none⟩) := (hk.init 2 (initialB_of_nw nw2)).trans hi2
    exact obE_run (wanted_none rfl) (by unfold execOp; simp only []; rw [e2]; go_simp) rfl
  · refine ⟨⟨fun τ => stableE_det _, leans_not⟩, ?_⟩
    intro a w O hk
    have e43 : a.eval (.tmp 43) = .pointer (some ⟨b, 2, none⟩) := hk.fact 6 _ 43 rfl rfl rfl rfl
    have x2 := hk.world.still hx2 (fun ⟨_, h⟩ => h.elim And.right And.right)
    obtain ⟨p0, p1, p2, -, -, -⟩ := row3 x2
    have hfx : ∀ k, k < b → w.heap[k]? = w0.heap[k]? := fun k hkb => hk.fix k (est2_fix (by have := blk_lt hx2; omega) (fun h => h) (fun h => h))
    have hcc : ∀ j, w.cell? ⟨gb, j, none⟩ = w0.cell? ⟨gb, j, none⟩ := fun j => cell_same (hfx _ hgb)
    have q0 := (hcc _).trans hc0
    have q1 := (hcc _).trans hc1
    have q2 := (hcc _).trans hc2
    have q3 := (hcc _).trans hc3
    have q4 := (hcc _).trans hc4
    have q5 := (hcc _).trans hc5
    exact obE_run (wanted_none rfl) (by unfold execOp; simp only []; rw [e43]; go_simp) rfl
  · refine ⟨⟨fun τ => stableE_det _, leans_not⟩, ?_⟩
    intro a w O hk
    have e44 : a.eval (.tmp 44) = .slice (some ⟨gb, off, none⟩) 2 c := hk.fact 7 _ 44 rfl rfl rfl rfl
    have x2 := hk.world.still hx2 (fun ⟨_, h⟩ => h.elim And.right And.right)
    obtain ⟨p0, p1, p2, -, -, -⟩ := row3 x2
    have hfx : ∀ k, k < b → w.heap[k]? = w0.heap[k]? := fun k hkb => hk.fix k (est2_fix (by have := blk_lt hx2; omega) (fun h => h) (fun h => h))
    have hcc : ∀ j, w.cell? ⟨gb, j, none⟩ = w0.cell? ⟨gb, j, none⟩ := fun j => cell_same (hfx _ hgb)
    have q0 := (hcc _).trans hc0
    have q1 := (hcc _).trans hc1
    have q2 := (hcc _).trans hc2
    have q3 := (hcc _).trans hc3
    have q4 := (hcc _).trans hc4
    have q5 := (hcc _).trans hc5
    exact obE_run (wanted_none rfl) (by unfold execOp; simp only []; rw [e44]; go_simp) rfl
  · refine ⟨⟨fun τ => stableE_det _, leans_not⟩, ?_⟩
    intro a w O hk
    have e45 : a.eval (.tmp 45) = .pointer (some ⟨gb, off + 3, none⟩) := hk.fact 8 _ 45 rfl rfl rfl rfl
    have x2 := hk.world.still hx2 (fun ⟨_, h⟩ => h.elim And.right And.right)
    obtain ⟨p0, p1, p2, -, -, -⟩ := row3 x2
    have hfx : ∀ k, k < b → w.heap[k]? = w0.heap[k]? := fun k hkb => hk.fix k (est2_fix (by have := blk_lt hx2; omega) (fun h => h) (fun h => h))
    have hcc : ∀ j, w.cell? ⟨gb, j, none⟩ = w0.cell? ⟨gb, j, none⟩ := fun j => cell_same (hfx _ hgb)
    have q0 := (hcc _).trans hc0
    have q1 := (hcc _).trans hc1
    have q2 := (hcc _).trans hc2
    have q3 := (hcc _).trans hc3
    have q4 := (hcc _).trans hc4
    have q5 := (hcc _).trans hc5
    exact obE_run (wanted_none rfl) (by unfold execOp; simp only []; rw [e45]; go_simp) rfl
  · refine ⟨⟨fun τ => stableE_det _, leans_not⟩, ?_⟩
    intro a w O hk
    have e1 : a.eval (.tmp 1) = .slice Av nv cv := (hk.init 1 (initialB_of_nw nw1)).trans hi1
    exact toE (ob_move rfl e1 (wanted_none rfl) rfl)
  · refine ⟨⟨fun τ => stableE_det _, leans_not⟩, ?_⟩
    intro a w O hk
    have e46 : a.eval (.tmp 46) = .agg #[.int .i64 xk1, .int .i64 xn1, .slice A1 m1 c1] := hk.fact 9 _ 46 rfl rfl rfl rfl
    have e47 : a.eval (.tmp 47) = .slice Av nv cv := hk.fact 10 _ 47 rfl rfl rfl rfl
    have x2 := hk.world.still hx2 (fun ⟨_, h⟩ => h.elim And.right And.right)
    obtain ⟨p0, p1, p2, -, -, -⟩ := row3 x2
    have hfx : ∀ k, k < b → w.heap[k]? = w0.heap[k]? := fun k hkb => hk.fix k (est2_fix (by have := blk_lt hx2; omega) (fun h => h) (fun h => h))
    have hcc : ∀ j, w.cell? ⟨gb, j, none⟩ = w0.cell? ⟨gb, j, none⟩ := fun j => cell_same (hfx _ hgb)
    have q0 := (hcc _).trans hc0
    have q1 := (hcc _).trans hc1
    have q2 := (hcc _).trans hc2
    have q3 := (hcc _).trans hc3
    have q4 := (hcc _).trans hc4
    have q5 := (hcc _).trans hc5
    exact obE_callV #[.agg #[.int .i64 xk1, .int .i64 xn1, .slice A1 m1 c1], .slice Av nv cv] rfl rfl rfl rfl (by simp only [List.map_cons, List.map_nil]; rw [e46, e47]) (wanted_none rfl) (hof1 w hfx hk.world.size)
  · refine ⟨⟨fun τ => stableE_det _, leans_not⟩, ?_⟩
    intro a w O hk
    have e42 : a.eval (.tmp 42) = .int .i64 r0 := hk.fact 5 _ 42 rfl rfl rfl rfl
    have e48 : a.eval (.tmp 48) = .int .i64 r1 := hk.fact 11 _ 48 rfl rfl rfl rfl
    exact obE_maxInt rfl e42 e48 (wanted_none rfl) rfl
  · refine ⟨⟨fun τ => stableE_det _, leans_not⟩, ?_⟩
    intro a w O hk
    have e49 : a.eval (.tmp 49) = .int .i64 (max r0 r1) := hk.fact 12 _ 49 rfl rfl rfl rfl
    exact toE (ob_assign rfl e49 (wanted_none rfl) rfl)
set_option maxRecDepth 100000 in
set_option maxHeartbeats 8000000 in
theorem vl10_region {Q : Exit → Act → World → Prop} {id : Nat} (w0 : World) (b : Nat) (k n : Int) (gb off c : Nat) (Av : Option Addr) (nv cv : Nat) (xk0 xn0 : Int) (A0 : Option Addr) (m0 c0 : Nat) (r0 : Int) (xk1 xn1 : Int) (A1 : Option Addr) (m1 c1 : Nat) (r1 : Int)  {s0 s3 s4 s5 s6 s7 s8 s9 s10 s11 s12 s13 s14 s15 s16 s17 s18 s19 s20 s21 s22 s23 s24 s25 s26 s27 s28 s29 s30 s31 s32 s33 s34 s35 s36 s37 s38 s39 s40 s41 s42 s43 s44 s45 s46 s47 s48 s49 : Value} (hx2 : w0.heap[b]? = some (.cells #[.int .i64 k, .int .i64 n, .slice (some ⟨gb, off, none⟩) 2 c] 24 (0, 0))) (hgb : gb < b) (hc0 : w0.cell? ⟨gb, off, none⟩ = some (.int .i64 xk0)) (hc1 : w0.cell? ⟨gb, off + 1, none⟩ = some (.int .i64 xn0)) (hc2 : w0.cell? ⟨gb, off + 2, none⟩ = some (.slice A0 m0 c0)) (hc3 : w0.cell? ⟨gb, off + 3, none⟩ = some (.int .i64 xk1)) (hc4 : w0.cell? ⟨gb, off + 4, none⟩ = some (.int .i64 xn1)) (hc5 : w0.cell? ⟨gb, off + 5, none⟩ = some (.slice A1 m1 c1)) (hof0 : ∀ w, (∀ k, k < b → w.heap[k]? = w0.heap[k]?) → w0.heap.size ≤ w.heap.size → Calls Try.prog 35 #[.agg #[.int .i64 xk0, .int .i64 xn0, .slice A0 m0 c0], .slice Av nv cv] w fun e w' => e = .returned (.int .i64 r0) ∧ Below w.heap.size w w') (hof1 : ∀ w, (∀ k, k < b → w.heap[k]? = w0.heap[k]?) → w0.heap.size ≤ w.heap.size → Calls Try.prog 35 #[.agg #[.int .i64 xk1, .int .i64 xn1, .slice A1 m1 c1], .slice Av nv cv] w fun e w' => e = .returned (.int .i64 r1) ∧ Below w.heap.size w w') 
    (hend : ∀ (w' : World), Chg (fun k => False ∨ False) w0 w' → Q .normal { tmps := (s0 :: (.slice Av nv cv : Value) :: (.pointer (some ⟨b, 0, none⟩) : Value) :: s3 :: (.int .i64 (max r0 r1) : Value) :: s5 :: s6 :: s7 :: s8 :: s9 :: s10 :: s11 :: s12 :: s13 :: s14 :: s15 :: s16 :: s17 :: s18 :: s19 :: s20 :: s21 :: s22 :: s23 :: s24 :: s25 :: s26 :: s27 :: s28 :: s29 :: s30 :: s31 :: s32 :: s33 :: s34 :: s35 :: s36 :: (.pointer (some ⟨b, 2, none⟩) : Value) :: (.slice (some ⟨gb, off, none⟩) 2 c : Value) :: (.pointer (some ⟨gb, off, none⟩) : Value) :: (.agg #[.int .i64 xk0, .int .i64 xn0, .slice A0 m0 c0] : Value) :: (.slice Av nv cv : Value) :: (.int .i64 r0 : Value) :: (.pointer (some ⟨b, 2, none⟩) : Value) :: (.slice (some ⟨gb, off, none⟩) 2 c : Value) :: (.pointer (some ⟨gb, off + 3, none⟩) : Value) :: (.agg #[.int .i64 xk1, .int .i64 xn1, .slice A1 m1 c1] : Value) :: (.slice Av nv cv : Value) :: (.int .i64 r1 : Value) :: (.int .i64 (max r0 r1) : Value) :: ([] : List Value)).toArray, defers := [] } w') :
    (Code.region id vl10_ops.toArray true).wp Try.prog Q { tmps := (s0 :: (.slice Av nv cv : Value) :: (.pointer (some ⟨b, 0, none⟩) : Value) :: s3 :: s4 :: s5 :: s6 :: s7 :: s8 :: s9 :: s10 :: s11 :: s12 :: s13 :: s14 :: s15 :: s16 :: s17 :: s18 :: s19 :: s20 :: s21 :: s22 :: s23 :: s24 :: s25 :: s26 :: s27 :: s28 :: s29 :: s30 :: s31 :: s32 :: s33 :: s34 :: s35 :: s36 :: s37 :: s38 :: s39 :: s40 :: s41 :: s42 :: s43 :: s44 :: s45 :: s46 :: s47 :: s48 :: s49 :: ([] : List Value)).toArray, defers := [] } w0 := by
  refine wp_region_est (by kernel_rfl) (est2 0 0 (fun _ => False) (fun _ => False)) vl10_C (vl10_F w0 b k n gb off c Av nv cv xk0 xn0 A0 m0 c0 r0 xk1 xn1 A1 m1 c1 r1 ) (est2_dis (fun _ h _ => h)) (est2_range (fun _ h => h.elim) (fun _ h => h.elim)) (by rfl) (by kernel_rfl) (vl10_obs w0.drew b k n gb off c Av nv cv xk0 xn0 A0 m0 c0 r0 xk1 xn1 A1 m1 c1 r1  hx2 hgb hc0 hc1 hc2 hc3 hc4 hc5 hof0 hof1 _ _ rfl rfl) ?_
  intro a w' O hd hs hb hf hf2 ha hsame
  have hx : ∀ (qi : Nat) (qv : Value), nwB vl10_ops.toArray qi = true → (s0 :: (.slice Av nv cv : Value) :: (.pointer (some ⟨b, 0, none⟩) : Value) :: s3 :: s4 :: s5 :: s6 :: s7 :: s8 :: s9 :: s10 :: s11 :: s12 :: s13 :: s14 :: s15 :: s16 :: s17 :: s18 :: s19 :: s20 :: s21 :: s22 :: s23 :: s24 :: s25 :: s26 :: s27 :: s28 :: s29 :: s30 :: s31 :: s32 :: s33 :: s34 :: s35 :: s36 :: s37 :: s38 :: s39 :: s40 :: s41 :: s42 :: s43 :: s44 :: s45 :: s46 :: s47 :: s48 :: s49 :: ([] : List Value)).toArray.getD qi undef = qv → a.tmps.getD qi undef = qv := fun qi qv h e => (hsame qi (nwB.spec h)).trans e
  have x0 := hx 0 s0 (by kernel_rfl) rfl
  have x1 := hx 1 (.slice Av nv cv) (by kernel_rfl) rfl
  have x2 := hx 2 (.pointer (some ⟨b, 0, none⟩)) (by kernel_rfl) rfl
  have x3 := hx 3 s3 (by kernel_rfl) rfl
  have x4 : a.tmps.getD 4 undef = .int .i64 (max r0 r1) := (hf 13 _ 4 rfl rfl (by decide)).1
  have x5 := hx 5 s5 (by kernel_rfl) rfl
  have x6 := hx 6 s6 (by kernel_rfl) rfl
  have x7 := hx 7 s7 (by kernel_rfl) rfl
  have x8 := hx 8 s8 (by kernel_rfl) rfl
  have x9 := hx 9 s9 (by kernel_rfl) rfl
  have x10 := hx 10 s10 (by kernel_rfl) rfl
  have x11 := hx 11 s11 (by kernel_rfl) rfl
  have x12 := hx 12 s12 (by kernel_rfl) rfl
  have x13 := hx 13 s13 (by kernel_rfl) rfl
  have x14 := hx 14 s14 (by kernel_rfl) rfl
  have x15 := hx 15 s15 (by kernel_rfl) rfl
  have x16 := hx 16 s16 (by kernel_rfl) rfl
  have x17 := hx 17 s17 (by kernel_rfl) rfl
  have x18 := hx 18 s18 (by kernel_rfl) rfl
  have x19 := hx 19 s19 (by kernel_rfl) rfl
  have x20 := hx 20 s20 (by kernel_rfl) rfl
  have x21 := hx 21 s21 (by kernel_rfl) rfl
  have x22 := hx 22 s22 (by kernel_rfl) rfl
  have x23 := hx 23 s23 (by kernel_rfl) rfl
  have x24 := hx 24 s24 (by kernel_rfl) rfl
  have x25 := hx 25 s25 (by kernel_rfl) rfl
  have x26 := hx 26 s26 (by kernel_rfl) rfl
  have x27 := hx 27 s27 (by kernel_rfl) rfl
  have x28 := hx 28 s28 (by kernel_rfl) rfl
  have x29 := hx 29 s29 (by kernel_rfl) rfl
  have x30 := hx 30 s30 (by kernel_rfl) rfl
  have x31 := hx 31 s31 (by kernel_rfl) rfl
  have x32 := hx 32 s32 (by kernel_rfl) rfl
  have x33 := hx 33 s33 (by kernel_rfl) rfl
  have x34 := hx 34 s34 (by kernel_rfl) rfl
  have x35 := hx 35 s35 (by kernel_rfl) rfl
  have x36 := hx 36 s36 (by kernel_rfl) rfl
  have x37 : a.tmps.getD 37 undef = .pointer (some ⟨b, 2, none⟩) := (hf 0 _ 37 rfl rfl (by decide)).1
  have x38 : a.tmps.getD 38 undef = .slice (some ⟨gb, off, none⟩) 2 c := (hf 1 _ 38 rfl rfl (by decide)).1
  have x39 : a.tmps.getD 39 undef = .pointer (some ⟨gb, off, none⟩) := (hf 2 _ 39 rfl rfl (by decide)).1
  have x40 : a.tmps.getD 40 undef = .agg #[.int .i64 xk0, .int .i64 xn0, .slice A0 m0 c0] := (hf 3 _ 40 rfl rfl (by decide)).1
  have x41 : a.tmps.getD 41 undef = .slice Av nv cv := (hf 4 _ 41 rfl rfl (by decide)).1
  have x42 : a.tmps.getD 42 undef = .int .i64 r0 := (hf 5 _ 42 rfl rfl (by decide)).1
  have x43 : a.tmps.getD 43 undef = .pointer (some ⟨b, 2, none⟩) := (hf 6 _ 43 rfl rfl (by decide)).1
  have x44 : a.tmps.getD 44 undef = .slice (some ⟨gb, off, none⟩) 2 c := (hf 7 _ 44 rfl rfl (by decide)).1
  have x45 : a.tmps.getD 45 undef = .pointer (some ⟨gb, off + 3, none⟩) := (hf 8 _ 45 rfl rfl (by decide)).1
  have x46 : a.tmps.getD 46 undef = .agg #[.int .i64 xk1, .int .i64 xn1, .slice A1 m1 c1] := (hf 9 _ 46 rfl rfl (by decide)).1
  have x47 : a.tmps.getD 47 undef = .slice Av nv cv := (hf 10 _ 47 rfl rfl (by decide)).1
  have x48 : a.tmps.getD 48 undef = .int .i64 r1 := (hf 11 _ 48 rfl rfl (by decide)).1
  have x49 : a.tmps.getD 49 undef = .int .i64 (max r0 r1) := (hf 12 _ 49 rfl rfl (by decide)).1
  have hl : a.tmps = (s0 :: (.slice Av nv cv : Value) :: (.pointer (some ⟨b, 0, none⟩) : Value) :: s3 :: (.int .i64 (max r0 r1) : Value) :: s5 :: s6 :: s7 :: s8 :: s9 :: s10 :: s11 :: s12 :: s13 :: s14 :: s15 :: s16 :: s17 :: s18 :: s19 :: s20 :: s21 :: s22 :: s23 :: s24 :: s25 :: s26 :: s27 :: s28 :: s29 :: s30 :: s31 :: s32 :: s33 :: s34 :: s35 :: s36 :: (.pointer (some ⟨b, 2, none⟩) : Value) :: (.slice (some ⟨gb, off, none⟩) 2 c : Value) :: (.pointer (some ⟨gb, off, none⟩) : Value) :: (.agg #[.int .i64 xk0, .int .i64 xn0, .slice A0 m0 c0] : Value) :: (.slice Av nv cv : Value) :: (.int .i64 r0 : Value) :: (.pointer (some ⟨b, 2, none⟩) : Value) :: (.slice (some ⟨gb, off, none⟩) 2 c : Value) :: (.pointer (some ⟨gb, off + 3, none⟩) : Value) :: (.agg #[.int .i64 xk1, .int .i64 xn1, .slice A1 m1 c1] : Value) :: (.slice Av nv cv : Value) :: (.int .i64 r1 : Value) :: (.int .i64 (max r0 r1) : Value) :: ([] : List Value)).toArray := by
    have h := lit a.tmps 50 hs
    have e : ((List.range 50).map (fun i => a.tmps.getD i undef)).toArray = ((a.tmps.getD 0 undef : Value) :: (a.tmps.getD 1 undef : Value) :: (a.tmps.getD 2 undef : Value) :: (a.tmps.getD 3 undef : Value) :: (a.tmps.getD 4 undef : Value) :: (a.tmps.getD 5 undef : Value) :: (a.tmps.getD 6 undef : Value) :: (a.tmps.getD 7 undef : Value) :: (a.tmps.getD 8 undef : Value) :: (a.tmps.getD 9 undef : Value) :: (a.tmps.getD 10 undef : Value) :: (a.tmps.getD 11 undef : Value) :: (a.tmps.getD 12 undef : Value) :: (a.tmps.getD 13 undef : Value) :: (a.tmps.getD 14 undef : Value) :: (a.tmps.getD 15 undef : Value) :: (a.tmps.getD 16 undef : Value) :: (a.tmps.getD 17 undef : Value) :: (a.tmps.getD 18 undef : Value) :: (a.tmps.getD 19 undef : Value) :: (a.tmps.getD 20 undef : Value) :: (a.tmps.getD 21 undef : Value) :: (a.tmps.getD 22 undef : Value) :: (a.tmps.getD 23 undef : Value) :: (a.tmps.getD 24 undef : Value) :: (a.tmps.getD 25 undef : Value) :: (a.tmps.getD 26 undef : Value) :: (a.tmps.getD 27 undef : Value) :: (a.tmps.getD 28 undef : Value) :: (a.tmps.getD 29 undef : Value) :: (a.tmps.getD 30 undef : Value) :: (a.tmps.getD 31 undef : Value) :: (a.tmps.getD 32 undef : Value) :: (a.tmps.getD 33 undef : Value) :: (a.tmps.getD 34 undef : Value) :: (a.tmps.getD 35 undef : Value) :: (a.tmps.getD 36 undef : Value) :: (a.tmps.getD 37 undef : Value) :: (a.tmps.getD 38 undef : Value) :: (a.tmps.getD 39 undef : Value) :: (a.tmps.getD 40 undef : Value) :: (a.tmps.getD 41 undef : Value) :: (a.tmps.getD 42 undef : Value) :: (a.tmps.getD 43 undef : Value) :: (a.tmps.getD 44 undef : Value) :: (a.tmps.getD 45 undef : Value) :: (a.tmps.getD 46 undef : Value) :: (a.tmps.getD 47 undef : Value) :: (a.tmps.getD 48 undef : Value) :: (a.tmps.getD 49 undef : Value) :: ([] : List Value)).toArray := rfl
    rw [e, x0, x1, x2, x3, x4, x5, x6, x7, x8, x9, x10, x11, x12, x13, x14, x15, x16, x17, x18, x19, x20, x21, x22, x23, x24, x25, x26, x27, x28, x29, x30, x31, x32, x33, x34, x35, x36, x37, x38, x39, x40, x41, x42, x43, x44, x45, x46, x47, x48, x49] at h
    exact h
  obtain ⟨tmps, defers⟩ := a
  obtain rfl : defers = [] := hd
  have hl' : tmps = _ := hl
  rw [hl']
  have hb' := est2_chg hb
  exact hend w' ⟨hb'.os, hb'.tape, hb'.output, hb'.size, hb'.block⟩

end Go.Proofs.Ytjlhbaohippidaa

/-! ValR -/
namespace Go.Proofs.Ytjlhbaohippidaa
open Go.RowKit Go.IntWalk Go.Proofs.YtjlhbaohippidaaW.PrintWords Go.RegionInvYtjlhbaohippidaa Go.RegionEYtjlhbaohippidaa

theorem valR_in (vs : List Int) : ∀ {l : Lv}, Good l → 0 ≤ valR vs l ∧ valR vs l ≤ 1099511627776 := by
  intro l h
  induction h with
  | @mk k n ks h hk ih =>
    rcases good_cases (.mk h hk) with ⟨rfl, rfl, h0, h1⟩ | ⟨rfl, rfl, h0, h1⟩ | ⟨rfl, x, rfl, h0, h1, hx⟩ | ⟨rfl, x, y, rfl, -, -⟩
    · rw [valR_num]; omega
    · rw [valR_var]; exact vAt_in _ _
    · rw [valR_succ]; have := ih x (by simp); omega
    · rw [valR_max]; have := ih x (by simp); have := ih y (by simp); omega
theorem ReadsInt.still {w w' : World} {k : IntKind} {A : Option Addr} {n : Nat} {ks : List Int} (h : ReadsInt w k A n ks) (hs : ∀ b, b < w.heap.size → w'.heap[b]? = w.heap[b]?) : ReadsInt w' k A n ks := by
  refine ⟨h.1, h.2.1, fun hn => ?_⟩
  obtain ⟨ad, e, hc⟩ := h.2.2 hn
  refine ⟨ad, e, fun j hj => ?_⟩
  have hx := hc j hj
  exact (cell_same (w := w) (w' := w') (hs _ (World.block_lt_of_cell? w _ hx))).trans hx
abbrev vbW (w : World) (A : Option Addr) (m c : Nat) (k n : Int) : World := w.alloc (.cells #[.int .i64 k, .int .i64 n, .slice A m c] 24 (0, 0))
set_option maxHeartbeats 8000000 in
theorem ref_value (Av : Option Addr) (nv cv : Nat) (vs : List Int) (N : Nat) : ∀ (l : Lv), SizeOf.sizeOf l < N → Good l → ∀ (A : Option Addr) (c : Nat) (w : World), LvIn w w.heap.size A c l → ReadsInt w .i64 Av nv vs →
    Calls Try.prog 35 #[lvV A c l, .slice Av nv cv] w fun e w' => e = .returned (.int .i64 (valR vs l)) ∧ Below w.heap.size w w' := by
  induction N with
  | zero => intro l h; omega
  | succ N ih =>
    rintro ⟨lk, ln, ks⟩ hN hgood A c w hin hv
    have IH := Aside0.mk ih
    have HIN := Aside0.mk hin
    have HGOOD := Aside0.mk hgood
    have HV := Aside0.mk hv
    have HVL := Aside0.mk hv.1
    have hnv := hv.2.1
    clear ih hin hgood hv
    unfold lvV
    simp only [Lv.kind, Lv.num, Lv.kids]
    have HB1 := Aside0.mk (show Below w.heap.size w (vbW w A ks.length c lk ln) from below_alloc (Below.refl _ _) _)
    have HX2 := Aside0.mk (show (vbW w A ks.length c lk ln).heap[w.heap.size]? = some (.cells #[.int .i64 lk, .int .i64 ln, .slice A ks.length c] 24 (0, 0)) from blk_new w _)
    have HZ1 := Aside0.mk (show (vbW w A ks.length c lk ln).heap.size = w.heap.size + 1 by simp [vbW])
    rcases good_cases HGOOD.out with ⟨rfl, rfl, h0, h1⟩ | ⟨rfl, rfl, h0, h1⟩ | ⟨rfl, x, rfl, h0, h1, hx⟩ | ⟨rfl, x, y, rfl, hx, hy⟩
    · rw [valR_num]
      clear HGOOD
      go_enter Try.func35, Try.ntmps35
      go_wp2
      go_ret
      exact ⟨rfl, HB1.out⟩
    · rw [valR_var]
      obtain ⟨i, rfl⟩ := Int.eq_ofNat_of_zero_le h0
      rw [Int.toNat_natCast]
      clear HGOOD
      by_cases hi : i < nv
      · obtain ⟨ad, rfl, hc⟩ := (HV.out.below HB1.out).at_ i (by omega) (by omega)
        rw [Int.toNat_natCast] at hc
        have HE := Aside0.mk (vAt_lt (vs := vs) (i := i) (by rw [HVL.out]; exact hi))
        obtain ⟨z, hz⟩ : ∃ z, z = rd vs i := ⟨_, rfl⟩
        rw [← hz] at hc HE
        clear hz
        have hc' : (w.alloc (.cells #[.int .i64 2, .int .i64 i, .slice A 0 c] 24 (0, 0))).cell? (ad.add i) = some (.int .i64 z) := hc
        go_enter Try.func35, Try.ntmps35
        go_wp2
        all_goals go_ret
        all_goals exact ⟨congrArg (fun n => Ending.returned (.int .i64 n)) (by rw [HE.out]; omega), HB1.out⟩
      · have HE := Aside0.mk (vAt_ge (vs := vs) (i := i) (by rw [HVL.out]; exact hi))
        go_enter Try.func35, Try.ntmps35
        go_wp2
        go_ret
        exact ⟨by rw [HE.out]; rfl, HB1.out⟩
    · rw [valR_succ]
      obtain ⟨A', c', hcs, hxin⟩ := HIN.out.kid 0 x rfl
      obtain ⟨gb, off, rfl, hgb⟩ := kid_ptr hcs
      have HC := Aside0.mk (lit_kid (hcs.same (w' := vbW w (some ⟨gb, off, none⟩) [x].length c 3 ln) fun k hk _ => HB1.out.block k hk))
      have HRG := Aside0.mk (valR_in vs hx)
      have HXIN := Aside0.mk hxin
      have HX := Aside0.mk hx
      clear hcs hx hxin HGOOD
      go_enter Try.func35, Try.ntmps35
      go_upto_region 9 with (fail)
      refine vl9_region (vbW w (some ⟨gb, off, none⟩) [x].length c 3 ln) w.heap.size 3 ln gb off c Av nv cv x.kind x.num A' x.kids.length c' (valR vs x) HX2.out hgb HC.out.1 HC.out.2.1 HC.out.2.2 (fun w5 hw5 hz5 => ?_) (by have := HRG.out; rw [i64_left, wrap64_in _ (by omega)]) ?_
      · have hkid := kid_small (k := 3) (n := ln) (ks := [x]) (i := 0) (x := x) rfl
        exact IH.out x (by omega) HX.out A' c' w5 (LvS.all (HXIN.out.same fun k hk _ => (hw5 k hk).trans (HB1.out.block k hk))) (ReadsInt.still HV.out fun k hk => (hw5 k hk).trans (HB1.out.block k hk))
      · intro w9 hch
        have HBN := Aside0.mk (below_then HB1.out HB1.out.size (hch.below (fun _ h => h.elim False.elim False.elim) (Nat.le_refl _)))
        clear hch
        go_wp2
        all_goals go_ret
        all_goals exact ⟨congrArg (fun n => Ending.returned (.int .i64 n)) (by omega), HBN.out⟩
    · rw [valR_max]
      obtain ⟨A', c', hcs, hxin⟩ := HIN.out.kid 0 x rfl
      obtain ⟨A'', c'', hcs', hyin⟩ := HIN.out.kid 1 y rfl
      obtain ⟨gb, off, rfl, hgb⟩ := kid_ptr hcs
      have HC := Aside0.mk (lit_kid (hcs.same (w' := vbW w (some ⟨gb, off, none⟩) [x, y].length c 4 ln) fun k hk _ => HB1.out.block k hk))
      have HC' := Aside0.mk (lit_kid (hcs'.same (w' := vbW w (some ⟨gb, off, none⟩) [x, y].length c 4 ln) fun k hk _ => HB1.out.block k hk))
      have HXIN := Aside0.mk hxin
      have HYIN := Aside0.mk hyin
      have HX := Aside0.mk hx
      have HY := Aside0.mk hy
      clear hcs hx hxin hcs' hy hyin HGOOD
      go_enter Try.func35, Try.ntmps35
      go_upto_region 10 with (fail)
      refine vl10_region (vbW w (some ⟨gb, off, none⟩) [x, y].length c 4 ln) w.heap.size 4 ln gb off c Av nv cv x.kind x.num A' x.kids.length c' (valR vs x) y.kind y.num A'' y.kids.length c'' (valR vs y) HX2.out hgb HC.out.1 HC.out.2.1 HC.out.2.2 HC'.out.1 HC'.out.2.1 HC'.out.2.2 (fun w5 hw5 hz5 => ?_) (fun w5 hw5 hz5 => ?_) ?_
      · have hkid := kid_small (k := 4) (n := ln) (ks := [x, y]) (i := 0) (x := x) rfl
        exact IH.out x (by omega) HX.out A' c' w5 (LvS.all (HXIN.out.same fun k hk _ => (hw5 k hk).trans (HB1.out.block k hk))) (ReadsInt.still HV.out fun k hk => (hw5 k hk).trans (HB1.out.block k hk))
      · have hkid := kid_small (k := 4) (n := ln) (ks := [x, y]) (i := 1) (x := y) rfl
        exact IH.out y (by omega) HY.out A'' c'' w5 (LvS.all (HYIN.out.same fun k hk _ => (hw5 k hk).trans (HB1.out.block k hk))) (ReadsInt.still HV.out fun k hk => (hw5 k hk).trans (HB1.out.block k hk))
      · intro w9 hch
        have HBN := Aside0.mk (below_then HB1.out HB1.out.size (hch.below (fun _ h => h.elim False.elim False.elim) (Nat.le_refl _)))
        clear hch
        go_wp2
        go_ret
        exact ⟨rfl, HBN.out⟩
set_option maxHeartbeats 4000000 in
theorem refValue_calls (A Av : Option Addr) (c nv cv : Nat) (l : Lv) (vs : List Int) (w : World) (hin : LvIn w w.heap.size A c l) (hv : ReadsInt w .i64 Av nv vs) :
    Calls Try.prog 15 #[lvV A c l, .slice Av nv cv] w fun e w' => e = .returned (.int .i64 (valB vs l)) ∧ Below w.heap.size w w' := by
  have HIN := Aside0.mk hin
  have HV := Aside0.mk hv
  clear hin hv
  unfold lvV
  have HB0 := Aside0.mk (show Below w.heap.size w (w.alloc (.cells #[.int .i64 l.kind, .int .i64 l.num, .slice A l.kids.length c] 24 (0, 0))) from below_alloc (Below.refl _ _) _)
  have HX0 := Aside0.mk (blk_new w (.cells #[.int .i64 l.kind, .int .i64 l.num, .slice A l.kids.length c] 24 (0, 0)))
  go_enter Try.func15, Try.ntmps15
  cases hs : soundB l with
  | false =>
    have HE := Aside0.mk (valB_no (vs := vs) hs)
    have HS := Aside0.mk hs
    clear hs
    go_wp2_with (first
      | (go_at_call 16; go_must (refine (refSound_calls A c l _ (LvS.all (HIN.out.stay HB0.out))).mono ?_; rintro e w1 ⟨rfl, hb⟩; rw [HS.out]; have HB1 := Aside0.mk (below_then HB0.out HB0.out.size hb); clear hb)))
    go_ret
    exact ⟨by rw [HE.out]; rfl, HB1.out⟩
  | true =>
    have HE := Aside0.mk (show valR vs l = valB vs l by rw [valB_yes hs, ← valN_sum vs (good_of_sound hs)])
    have HG := Aside0.mk (good_of_sound hs)
    have HS := Aside0.mk hs
    clear hs
    go_wp2_with (first
      | (go_at_call 16; go_must (refine (refSound_calls A c l _ (LvS.all (HIN.out.stay HB0.out))).mono ?_; rintro e w1 ⟨rfl, hb⟩; rw [HS.out]; have HB1 := Aside0.mk (below_then HB0.out HB0.out.size hb); obtain ⟨p0, p1, p2, -, -, -⟩ := row3 (blk_below HX0.out hb); clear hb))
      | (go_at_call 35; go_must (refine (ref_value Av nv cv vs _ l (Nat.lt_succ_self _) HG.out A c _ (LvS.all (HIN.out.stay HB1.out)) (HV.out.below HB1.out)).mono ?_; rintro e w2 ⟨rfl, hb⟩; rw [HE.out]; have HB2 := Aside0.mk (below_then HB1.out HB1.out.size hb); clear hb)))
    go_ret
    exact ⟨rfl, HB2.out⟩
end Go.Proofs.Ytjlhbaohippidaa

/-! PutsP -/
namespace Go.Proofs.Ytjlhbaohippidaa
open Go.RowKit Go.Proofs.YtjlhbaohippidaaW.PrintWords Go.RegionInvYtjlhbaohippidaa Go.RegionEYtjlhbaohippidaa

theorem zero_not_sound : soundB (.mk 0 0 []) = false := by
  cases h : soundB (.mk 0 0 []) with
  | false => rfl
  | true =>
    rcases good_cases (good_of_sound h) with ⟨e, -⟩ | ⟨e, -⟩ | ⟨e, -⟩ | ⟨e, -⟩ <;> exact absurd e (by decide)
theorem instL_sum {us : List Lv} {l : Lv} (hu : ∀ u ∈ us, soundB u = true) (hl : soundB l = true) (hx : soundB (instL us l) = true) : eqR (sumP (instL us l)) (ofP (us.map sumP) l) := by
  have hn : NfL (ofP (us.map sumP) l) := ofP_nfl (fun f hf => by obtain ⟨u, hu', rfl⟩ := List.mem_map.1 hf; exact sum_nfl (hu u hu')) (good_of_sound hl)
  unfold instL at hx ⊢
  split
  · have h := lvl_sum (short_ok hn.1) (Nat.le_trans (short_len_le _) hn.2) (parts_ne hn.1)
    exact ⟨fun j => (h.1 j).trans (atP_short hn.1 j), h.2.trans (least_short hn.1)⟩
  · rename_i h
    rw [if_neg h, zero_not_sound] at hx
    cases hx
/-- A number as the law takes it. -/
def clI (v : Int) : Int := max 0 (min v 1073741824)
def innerL (us : List Lv) (at_ : List Int) : List Int := us.map (valB at_) ++ at_.drop us.length
theorem valB_in (vs : List Int) {l : Lv} (h : soundB l = true) : 0 ≤ valB vs l ∧ valB vs l ≤ 1099511627776 := by
  rw [valB_yes h, valN_sum vs (good_of_sound h)]; exact valR_in vs (good_of_sound h)
theorem inner_at {us : List Lv} {at_ : List Int} (hu : ∀ u ∈ us, soundB u = true) (i : Nat) : vAt (innerL us at_) i = if i < us.length then valB at_ (lvAt us i) else vAt at_ i := by
  unfold innerL
  by_cases hi : i < us.length
  · rw [if_pos hi, vAt_lt (by simp; omega), rd_nat', List.getD_eq_getElem?_getD, List.getElem?_append_left (by simpa using hi), List.getElem?_map, List.getElem?_eq_getElem hi]
    have hx := valB_in at_ (hu _ (List.getElem_mem hi))
    have e : lvAt us i = us[i] := lvAt_get (List.getElem?_eq_getElem hi)
    rw [e]
    simp only [Option.map_some, Option.getD_some]
    omega
  · rw [if_neg hi]
    unfold vAt
    rw [rd_nat', rd_nat', List.getD_eq_getElem?_getD, List.getD_eq_getElem?_getD, List.getElem?_append_right (by simp; omega)]
    simp only [List.length_append, List.length_map, List.length_drop, List.getElem?_drop]
    rw [show us.length + (i - us.length) = i by omega]
    by_cases h : i < at_.length
    · rw [if_pos (by omega), if_pos h]
    · rw [if_neg (by omega), if_neg h]
theorem puts_val {us : List Lv} {l : Lv} {at_ : List Int} (hu : ∀ u ∈ us, soundB u = true) (hl : soundB l = true) (hx : soundB (instL us l) = true) : valB at_ (instL us l) = valB (innerL us at_) l := by
  have hn : NfL (ofP (us.map sumP) l) := ofP_nfl (fun f hf => by obtain ⟨u, hu', rfl⟩ := List.mem_map.1 hf; exact sum_nfl (hu u hu')) (good_of_sound hl)
  rw [valB_yes hx, val_eqR (sumP_ok hx) hn.1 (instL_sum hu hl hx), valN_map hu (inner_at hu) (good_of_sound hl), valB_yes hl, valN_sum _ (good_of_sound hl)]
end Go.Proofs.Ytjlhbaohippidaa

/-! RefP -/
namespace Go.Proofs.Ytjlhbaohippidaa
open Go.RowKit Go.Proofs.YtjlhbaohippidaaW.PrintWords Go.RegionInvYtjlhbaohippidaa Go.RegionEYtjlhbaohippidaa

/-! ### sums by what they are at most -/
theorem least_iff {f : Nf} (hf : NfOk f) {b : Int} : leastN f ≤ b ↔ f.1 ≤ b ∧ ∀ j : Nat, atP f.2 j ≤ b := by
  have h0 := hf.1
  have hge := least_ge f
  exact ⟨fun h => ⟨by omega, fun j => by have := least_at (f := f) j (by omega); omega⟩, fun h => least_le h.1 h.2⟩
theorem least_in {f : Nf} (hf : NfOk f) : 0 ≤ leastN f ∧ leastN f ≤ 1099511627776 := by
  have hge := least_ge f
  have h0 := hf.1
  exact ⟨by omega, least_le hf.2.1 fun j => (atP_ok hf.2.2.1 j).2⟩
theorem atP_in2 {f : Nf} (hf : NfOk f) (j : Nat) : -1 ≤ atP f.2 j ∧ atP f.2 j ≤ 1099511627776 := atP_ok hf.2.2.1 j
theorem least_plus {f : Nf} (hf : NfOk f) {k : Int} (hk : 0 ≤ k) (hk1 : k ≤ 1099511627776) {b : Int} : leastN (plusN k f) ≤ b ↔ min 1099511627776 (leastN f + k) ≤ b := by
  have hp := plusN_ok hf hk hk1
  have h0 := hf.1
  have h1 := hf.2.1
  have hl := least_in hf
  rw [least_iff hp, plus_fst]
  by_cases hb : 1099511627776 ≤ b
  · exact ⟨fun _ => by omega, fun _ => ⟨by omega, fun j => by have := atP_in2 hp j; omega⟩⟩
  · constructor
    · rintro ⟨h2, h3⟩
      have : leastN f ≤ b - k := (least_iff hf).2 ⟨by omega, fun j => by
        have h4 := h3 j
        have h5 := atP_in2 hf j
        rw [atP_plus] at h4
        unfold addN at h4
        split at h4 <;> omega⟩
      omega
    · intro h
      have h2 := (least_iff hf (b := b - k)).1 (by omega)
      refine ⟨by omega, fun j => ?_⟩
      have h4 := h2.2 j
      have h5 := atP_in2 hf j
      rw [atP_plus]
      unfold addN
      split <;> omega
theorem least_or {f g : Nf} (hf : NfOk f) (hg : NfOk g) {b : Int} : leastN (orN f g) ≤ b ↔ leastN f ≤ b ∧ leastN g ≤ b := by
  rw [least_iff (orN_ok hf hg), least_iff hf, least_iff hg, or_fst]
  constructor
  · rintro ⟨h1, h2⟩
    exact ⟨⟨by omega, fun j => by have := h2 j; rw [atP_or] at this; omega⟩, ⟨by omega, fun j => by have := h2 j; rw [atP_or] at this; omega⟩⟩
  · rintro ⟨⟨h1, h2⟩, h3, h4⟩
    exact ⟨by omega, fun j => by rw [atP_or]; have := h2 j; have := h4 j; omega⟩
/-! ### shortened on the way -/
def plusR (n : Int) (f : Nf) : Nf := (if f.2 = [] ∨ 0 < f.1 then min 1099511627776 (f.1 + n) else f.1, f.2.map (addN n))
theorem plusR_ok {n : Int} {f : Nf} (h : NfOk f) (h0 : 0 ≤ n) (h1 : n ≤ 1099511627776) : NfOk (plusR n f) := by
  have hp := plusN_ok h h0 h1
  refine ⟨?_, ?_, hp.2.2.1, hp.2.2.2⟩
  · unfold plusR; simp only []; have := h.1; split <;> omega
  · unfold plusR; simp only []; have := h.2.1; split <;> omega
theorem eqR_short {f : Nf} (hf : NfOk f) : eqR (shortN f) f := ⟨atP_short hf, least_short hf⟩
theorem eqR_or {f f' g g' : Nf} (hf : NfOk f) (hf' : NfOk f') (hg : NfOk g) (hg' : NfOk g') (h1 : eqR f f') (h2 : eqR g g') : eqR (orN f g) (orN f' g') :=
  ⟨fun j => by rw [atP_or, atP_or, h1.1, h2.1], le_ext fun b => by rw [least_or hf hg, least_or hf' hg', h1.2, h2.2]⟩
theorem eqR_plus {f f' : Nf} {n : Int} (hf : NfOk f) (hf' : NfOk f') (h0 : 0 ≤ n) (h1 : n ≤ 1099511627776) (h : eqR f f') : eqR (plusN n f) (plusN n f') :=
  ⟨fun j => by rw [atP_plus, atP_plus, h.1], le_ext fun b => by rw [least_plus hf h0 h1, least_plus hf' h0 h1, h.2]⟩
/-- What is short: its last number says something, its own number too. -/
theorem short_last {f : Nf} (h : (shortN f).2 ≠ []) : 0 ≤ rd (shortN f).2 (((shortN f).2.length - 1 : Nat) : Int) := by
  have hle := trim_le f.2 f.2.length
  have hl : (shortN f).2.length = trimTo f.2 f.2.length := by simp [shortN]; omega
  have hp : 0 < trimTo f.2 f.2.length := by
    rcases Nat.eq_zero_or_pos (trimTo f.2 f.2.length) with h0 | h0
    · exact absurd (List.eq_nil_of_length_eq_zero (by omega)) h
    · exact h0
  have h1 := trim_last f.2 f.2.length hp
  rw [hl]
  have e : (shortN f).2 = f.2.take (trimTo f.2 f.2.length) := rfl
  rw [e, rd_nat', List.getD_eq_getElem?_getD, List.getElem?_take, if_pos (by omega), ← List.getD_eq_getElem?_getD, ← rd_nat']
  exact h1
theorem eqR_plusR {f : Nf} {n : Int} (hf : NfOk f) (h0 : 0 ≤ n) (h1 : n ≤ 1099511627776) : eqR (plusR n (shortN f)) (plusN n (shortN f)) := by
  have hs := short_ok hf
  have hp := plusN_ok hs h0 h1
  have hr := plusR_ok hs h0 h1
  have ha : ∀ j : Nat, atP (plusR n (shortN f)).2 j = atP (plusN n (shortN f)).2 j := fun j => rfl
  refine ⟨ha, ?_⟩
  by_cases hc : (shortN f).2 = [] ∨ 0 < (shortN f).1
  · have : plusR n (shortN f) = plusN n (shortN f) := by unfold plusR plusN; rw [if_pos hc]
    rw [this]
  · have hc1 : (shortN f).2 ≠ [] := fun e => hc (.inl e)
    have hc2 : (shortN f).1 = 0 := by have := hs.1; have : ¬ 0 < (shortN f).1 := fun e => hc (.inr e); omega
    have hl := short_last hc1
    have hlen : 0 < (shortN f).2.length := List.length_pos_iff.2 hc1
    have hat : atP (shortN f).2 (((shortN f).2.length - 1 : Nat) : Int) = rd (shortN f).2 (((shortN f).2.length - 1 : Nat) : Int) := atP_lt (by omega)
    apply le_ext
    intro b
    rw [least_iff hr, least_iff hp]
    have e1 : (plusR n (shortN f)).1 = 0 := by unfold plusR; simp only []; rw [if_neg hc, hc2]
    rw [e1, plus_fst, hc2]
    constructor
    · rintro ⟨h2, h3⟩
      refine ⟨?_, h3⟩
      have h4 := h3 ((shortN f).2.length - 1)
      rw [ha, atP_plus, hat] at h4
      unfold addN at h4
      rw [if_pos hl] at h4
      omega
    · rintro ⟨h2, h3⟩
      exact ⟨by omega, h3⟩
theorem short_plus {f : Nf} {n : Int} (hf : NfOk f) (h0 : 0 ≤ n) (h1 : n ≤ 1099511627776) : shortN (plusR n (shortN f)) = shortN (plusN n f) := by
  have hs := short_ok hf
  have e1 := eqR_plusR hf h0 h1
  have e2 := eqR_plus hs hf h0 h1 (eqR_short hf)
  exact (short_eq (plusR_ok hs h0 h1) (plusN_ok hf h0 h1)).2 ⟨fun j => (e1.1 j).trans (e2.1 j), e1.2.trans e2.2⟩
theorem short_or {f g : Nf} (hf : NfOk f) (hg : NfOk g) : shortN (orN (shortN f) (shortN g)) = shortN (orN f g) :=
  (short_eq (orN_ok (short_ok hf) (short_ok hg)) (orN_ok hf hg)).2 (eqR_or (short_ok hf) hf (short_ok hg) hg (eqR_short hf) (eqR_short hg))
theorem short_short {f : Nf} (hf : NfOk f) : shortN (shortN f) = shortN f := (short_eq (short_ok hf) hf).2 (eqR_short hf)
theorem short_num (n : Int) : shortN (n, []) = (n, []) := by unfold shortN; simp [trimTo]
theorem short_var (i : Nat) : shortN (0, List.replicate i (-1) ++ [0]) = (0, List.replicate i (-1) ++ [0]) := by
  have hr : rd (List.replicate i (-1) ++ [0] : List Int) (i : Nat) = 0 := by rw [rd_nat', List.getD_eq_getElem?_getD, List.getElem?_append_right (by simp)]; simp
  have ht : trimTo (List.replicate i (-1) ++ [0] : List Int) (List.replicate i (-1) ++ [0] : List Int).length = i + 1 := by
    rw [List.length_append, List.length_replicate, List.length_singleton, trimTo, hr]; rfl
  unfold shortN
  simp only [ht]
  rw [List.take_of_length_le (by simp)]
  congr 1
  split <;> rfl
/-! ### put in -/
def vlv (vs : List Lv) (i : Nat) : Lv := if i < vs.length then lvAt vs i else .mk 2 i []
/-- What the reference has gathered after i variables. -/
def accN (c : Int) (K : List Int) (vs : List Lv) : Nat → Nf
  | 0 => (c, [])
  | i + 1 => if rd K (i : Nat) < 0 then accN c K vs i else orN (accN c K vs i) (plusN (rd K (i : Nat)) (sumP (vlv vs i)))
theorem varN_vlv (vs : List Lv) (i : Nat) : varN (vs.map sumP) i = sumP (vlv vs i) := by
  unfold vlv varN
  by_cases h : i < vs.length
  · rw [if_pos h, if_pos (by simpa using h), Int.toNat_natCast, List.getD_eq_getElem?_getD, List.getElem?_map, List.getElem?_eq_getElem h]
    have : lvAt vs i = vs[i] := lvAt_get (List.getElem?_eq_getElem h)
    rw [this]; rfl
  · rw [if_neg h, if_neg (by simpa using h), Int.toNat_natCast]
    exact (var_sum i).symm
theorem acc_ok {c : Int} {K : List Int} {vs : List Lv} (hc : 0 ≤ c ∧ c ≤ 1099511627776) (hK : ∀ x ∈ K, -1 ≤ x ∧ x ≤ 1099511627776) : ∀ n : Nat, n ≤ K.length → (∀ i < n, 0 ≤ rd K (i : Nat) → NfL (sumP (vlv vs i))) →
    NfL (accN c K vs n) := by
  intro n
  induction n with
  | zero => intro _ _; exact ⟨⟨hc.1, hc.2, fun x hx => by simp [accN] at hx, by simp [accN]⟩, by simp [accN]⟩
  | succ n ih =>
    intro hn hv
    have h := ih (by omega) fun i hi => hv i (by omega)
    rw [accN]
    split
    · exact h
    · rename_i h0
      have hs := hv n (by omega) (by omega)
      have hm : rd K (n : Nat) ∈ K := by rw [rd_nat', List.getD_eq_getElem?_getD, List.getElem?_eq_getElem (by omega)]; exact List.getElem_mem _
      refine ⟨orN_ok h.1 (plusN_ok hs.1 (by omega) (hK _ hm).2), ?_⟩
      rw [or_len]
      have h1 := h.2
      have h2 : (plusN (rd K (n : Nat)) (sumP (vlv vs n))).2.length = (sumP (vlv vs n)).2.length := by simp [plusN]
      have h3 := hs.2
      omega
theorem acc_at {c : Int} {K : List Int} {vs : List Lv} {j : Nat} {b : Int} (hb : -1 ≤ b) (n : Nat) :
    atP (accN c K vs n).2 j ≤ b ↔ ∀ i : Nat, i < n → 0 ≤ rd K (i : Nat) → addN (rd K (i : Nat)) (atP (sumP (vlv vs i)).2 j) ≤ b := by
  induction n with
  | zero => exact ⟨fun _ i hi => by omega, fun _ => by show atP [] _ ≤ b; rw [atP_beyond (by simp)]; exact hb⟩
  | succ n ih =>
    rw [accN]
    split
    · rename_i h0
      rw [ih]
      exact ⟨fun h i hi hk => by rcases Nat.lt_succ_iff_lt_or_eq.1 hi with h' | rfl; exact h i h' hk; omega, fun h i hi => h i (by omega)⟩
    · rename_i h0
      rw [atP_or, atP_plus]
      constructor
      · intro h i hi hk
        rcases Nat.lt_succ_iff_lt_or_eq.1 hi with h' | rfl
        · exact (ih.1 (by omega)) i h' hk
        · omega
      · intro h
        have h1 := ih.2 fun i hi => h i (by omega)
        have h2 := h n (by omega) (by omega)
        omega
theorem acc_least {c : Int} {K : List Int} {vs : List Lv} {b : Int} (hc : 0 ≤ c ∧ c ≤ 1099511627776) (hK : ∀ x ∈ K, -1 ≤ x ∧ x ≤ 1099511627776) : ∀ n : Nat, n ≤ K.length → (∀ i < n, 0 ≤ rd K (i : Nat) → NfL (sumP (vlv vs i))) →
    (leastN (accN c K vs n) ≤ b ↔ c ≤ b ∧ ∀ i : Nat, i < n → 0 ≤ rd K (i : Nat) → min 1099511627776 (leastN (sumP (vlv vs i)) + rd K (i : Nat)) ≤ b) := by
  intro n
  induction n with
  | zero => intro _ _; exact ⟨fun h => ⟨h, fun i hi => by omega⟩, fun h => h.1⟩
  | succ n ih =>
    intro hn hv
    have hi := ih (by omega) fun i hi => hv i (by omega)
    have hok := acc_ok (c := c) hc hK n (by omega) fun i hi => hv i (by omega)
    rw [accN]
    split
    · rename_i h0
      rw [hi]
      exact ⟨fun h => ⟨h.1, fun i hi hk => by rcases Nat.lt_succ_iff_lt_or_eq.1 hi with h' | rfl; exact h.2 i h' hk; omega⟩, fun h => ⟨h.1, fun i hi => h.2 i (by omega)⟩⟩
    · rename_i h0
      have hs := hv n (by omega) (by omega)
      have hm : rd K (n : Nat) ∈ K := by rw [rd_nat', List.getD_eq_getElem?_getD, List.getElem?_eq_getElem (by omega)]; exact List.getElem_mem _
      rw [least_or hok.1 (plusN_ok hs.1 (by omega) (hK _ hm).2), least_plus hs.1 (by omega) (hK _ hm).2, hi]
      constructor
      · rintro ⟨⟨h1, h2⟩, h3⟩
        exact ⟨h1, fun i hi hk => by rcases Nat.lt_succ_iff_lt_or_eq.1 hi with h' | rfl; exact h2 i h' hk; exact h3⟩
      · rintro ⟨h1, h2⟩
        exact ⟨⟨h1, fun i hi => h2 i (by omega)⟩, h2 n (by omega) (by omega)⟩
/-- A sum with sums in the place of its variables. -/
theorem subst_sum (fs : List Nf) {l : Lv} (h : Good l) : (∀ i : Nat, 0 ≤ atP (sumP l).2 i → NfOk (varN fs i)) → NfOk (ofP fs l) ∧
    (∀ (j : Nat) (b : Int), -1 ≤ b → (atP (ofP fs l).2 j ≤ b ↔ ∀ i : Nat, 0 ≤ atP (sumP l).2 i → addN (atP (sumP l).2 i) (atP (varN fs i).2 j) ≤ b)) ∧
    (∀ b : Int, leastN (ofP fs l) ≤ b ↔ (sumP l).1 ≤ b ∧ ∀ i : Nat, 0 ≤ atP (sumP l).2 i → min 1099511627776 (leastN (varN fs i) + atP (sumP l).2 i) ≤ b) := by
  induction h with
  | @mk k n ks h hk ih =>
    intro hv
    rcases good_cases (.mk h hk) with ⟨rfl, rfl, h0, h1⟩ | ⟨rfl, rfl, h0, h1⟩ | ⟨rfl, x, rfl, h0, h1, hx⟩ | ⟨rfl, x, y, rfl, hgx, hgy⟩
    · rw [num_sum] at hv ⊢
      rw [ofP_num]
      have hno : ∀ i : Nat, ¬ 0 ≤ atP (n, ([] : List Int)).2 i := fun i => by rw [atP_beyond (by simp)]; omega
      refine ⟨⟨h0, h1, fun x hx => by simp at hx, by simp⟩, fun j b hb => ⟨fun _ i hi => absurd hi (hno i), fun _ => by rw [atP_beyond (by simp)]; exact hb⟩, fun b => ⟨fun h => ⟨h, fun i hi => absurd hi (hno i)⟩, fun h => h.1⟩⟩
    · obtain ⟨i, rfl⟩ := Int.eq_ofNat_of_zero_le h0
      have hs : sumP (.mk 2 (i : Int) []) = (0, List.replicate i (-1) ++ [0]) := var_sum i
      rw [hs] at hv ⊢
      rw [ofP_var]
      simp only [atP_varN] at hv ⊢
      have hok := hv i (by rw [if_pos rfl]; omega)
      have hl := least_in hok
      refine ⟨hok, fun j b hb => ⟨fun h i' hi' => ?_, fun h => ?_⟩, fun b => ⟨fun h => ⟨by omega, fun i' hi' => ?_⟩, fun h => ?_⟩⟩
      · split at hi'
        · rename_i e; subst e
          rw [if_pos rfl]
          have := atP_in2 hok j
          unfold addN; split <;> omega
        · omega
      · have h2 := h i (by rw [if_pos rfl]; omega)
        rw [if_pos rfl] at h2
        have := atP_in2 hok j
        unfold addN at h2; split at h2 <;> omega
      · split at hi'
        · rename_i e; subst e
          rw [if_pos rfl]; omega
        · omega
      · have h2 := h.2 i (by rw [if_pos rfl]; omega)
        rw [if_pos rfl] at h2
        omega
    · have hsx : sumP (.mk 3 n [x]) = plusN n (sumP x) := by show ofP [] _ = _; rw [ofP_succ]; rfl
      have hsok : NfOk (sumP x) := ofP_ok (fun _ h => by cases h) hx
      rw [hsx] at hv ⊢
      simp only [atP_plus] at hv ⊢
      have hpos : ∀ i : Nat, 0 ≤ addN n (atP (sumP x).2 i) ↔ 0 ≤ atP (sumP x).2 i := fun i => by unfold addN; split <;> omega
      simp only [hpos] at hv ⊢
      obtain ⟨hok, hA, hL⟩ := ih x (by simp) hv
      rw [ofP_succ]
      have hp := plusN_ok hok (show 0 ≤ n by omega) h1
      refine ⟨hp, fun j b hb => ?_, fun b => ?_⟩
      · rw [atP_plus]
        have hy := atP_in2 hok j
        by_cases hbt : 1099511627776 ≤ b
        · exact ⟨fun _ i hi => by have := atP_in2 (hv i hi) j; have := atP_in2 hsok i; unfold addN; split <;> omega, fun _ => by unfold addN; split <;> omega⟩
        · have h2 := hA j (max (-1) (b - n)) (by omega)
          have h3 : addN n (atP (ofP fs x).2 j) ≤ b ↔ atP (ofP fs x).2 j ≤ max (-1) (b - n) := by unfold addN; split <;> omega
          rw [h3, h2]
          refine forall_congr' fun i => forall_congr' fun hi => ?_
          have := atP_in2 (hv i hi) j
          have := atP_in2 hsok i
          have e : addN n (atP (sumP x).2 i) = min 1099511627776 (atP (sumP x).2 i + n) := by unfold addN; rw [if_pos hi]
          rw [e]
          unfold addN
          split <;> omega
      · rw [least_plus hok (by omega) h1, plus_fst]
        have hl := least_in hok
        by_cases hbt : 1099511627776 ≤ b
        · exact ⟨fun _ => ⟨by omega, fun i hi => by omega⟩, fun _ => by omega⟩
        · have h3 : min 1099511627776 (leastN (ofP fs x) + n) ≤ b ↔ leastN (ofP fs x) ≤ b - n := by omega
          rw [h3, hL]
          refine and_congr (by omega) (forall_congr' fun i => forall_congr' fun hi => ?_)
          have := least_in (hv i hi)
          have := atP_in2 hsok i
          have e : addN n (atP (sumP x).2 i) = min 1099511627776 (atP (sumP x).2 i + n) := by unfold addN; rw [if_pos hi]
          rw [e]
          omega
    · have hsx : sumP (.mk 4 n [x, y]) = orN (sumP x) (sumP y) := by show ofP [] _ = _; rw [ofP_max]; rfl
      rw [hsx] at hv ⊢
      simp only [atP_or] at hv ⊢
      obtain ⟨hokx, hAx, hLx⟩ := ih x (by simp) fun i hi => hv i (by omega)
      obtain ⟨hoky, hAy, hLy⟩ := ih y (by simp) fun i hi => hv i (by omega)
      rw [ofP_max]
      refine ⟨orN_ok hokx hoky, fun j b hb => ?_, fun b => ?_⟩
      · have h3 : atP (orN (ofP fs x) (ofP fs y)).2 j ≤ b ↔ atP (ofP fs x).2 j ≤ b ∧ atP (ofP fs y).2 j ≤ b := by rw [atP_or]; omega
        rw [h3, hAx j b hb, hAy j b hb]
        constructor
        · rintro ⟨h1, h2⟩ i hi
          have g1 := h1 i
          have g2 := h2 i
          have := atP_in2 (hv i hi) j
          unfold addN at g1 g2 ⊢
          split at g1 <;> split at g2 <;> split <;> omega
        · intro h1
          refine ⟨fun i hi => ?_, fun i hi => ?_⟩
          · have g := h1 i (by omega)
            unfold addN at g ⊢
            split at g <;> split <;> omega
          · have g := h1 i (by omega)
            unfold addN at g ⊢
            split at g <;> split <;> omega
      · rw [least_or hokx hoky, hLx, hLy, or_fst]
        constructor
        · rintro ⟨⟨h1, h2⟩, h3, h4⟩
          refine ⟨by omega, fun i hi => ?_⟩
          have g1 := h2 i
          have g2 := h4 i
          omega
        · rintro ⟨h1, h2⟩
          refine ⟨⟨by omega, fun i hi => ?_⟩, by omega, fun i hi => ?_⟩
          · have g := h2 i (by omega); omega
          · have g := h2 i (by omega); omega
theorem acc_eq {vs : List Lv} {l : Lv} (hg : Good l) (hv : ∀ i : Nat, 0 ≤ atP (sumP l).2 i → NfL (sumP (vlv vs i))) :
    shortN (accN (shortN (sumP l)).1 (shortN (sumP l)).2 vs (shortN (sumP l)).2.length) = shortN (ofP (vs.map sumP) l) := by
  have hok : NfOk (sumP l) := ofP_ok (fun _ h => by cases h) hg
  have hs := short_ok hok
  have hv' : ∀ i : Nat, 0 ≤ atP (sumP l).2 i → NfOk (varN (vs.map sumP) i) := fun i hi => by rw [varN_vlv]; exact (hv i hi).1
  obtain ⟨ho, hA, hL⟩ := subst_sum (vs.map sumP) hg hv'
  have hvK : ∀ i < (shortN (sumP l)).2.length, 0 ≤ rd (shortN (sumP l)).2 (i : Nat) → NfL (sumP (vlv vs i)) := fun i hi h0 => hv i (by rw [← atP_short hok, atP_lt hi]; exact h0)
  have hacc := acc_ok (vs := vs) (c := (shortN (sumP l)).1) ⟨hs.1, hs.2.1⟩ hs.2.2.1 _ (Nat.le_refl _) hvK
  refine (short_eq hacc.1 ho).2 ⟨fun j => le_ext fun b => ?_, le_ext fun b => ?_⟩
  · by_cases hb : -1 ≤ b
    · rw [acc_at hb, hA j b hb]
      simp only [varN_vlv]
      constructor
      · intro h i hi
        rw [← atP_short hok] at hi ⊢
        by_cases hlt : i < (shortN (sumP l)).2.length
        · rw [atP_lt hlt] at hi ⊢; exact h i hlt hi
        · rw [atP_beyond (by omega)] at hi; omega
      · intro h i hi h0
        have g := h i
        rw [← atP_short hok, atP_lt hi] at g
        exact g h0
    · have h1 := atP_in2 hacc.1 j
      have h2 := atP_in2 ho j
      exact ⟨fun h => by omega, fun h => by omega⟩
  · rw [acc_least ⟨hs.1, hs.2.1⟩ hs.2.2.1 _ (Nat.le_refl _) hvK, hL b]
    simp only [varN_vlv]
    have hall : (∀ i : Nat, i < (shortN (sumP l)).2.length → 0 ≤ rd (shortN (sumP l)).2 (i : Nat) → min 1099511627776 (leastN (sumP (vlv vs i)) + rd (shortN (sumP l)).2 (i : Nat)) ≤ b) ↔
        ∀ i : Nat, 0 ≤ atP (sumP l).2 i → min 1099511627776 (leastN (sumP (vlv vs i)) + atP (sumP l).2 i) ≤ b := by
      constructor
      · intro h i hi
        rw [← atP_short hok] at hi ⊢
        by_cases hlt : i < (shortN (sumP l)).2.length
        · rw [atP_lt hlt] at hi ⊢; exact h i hlt hi
        · rw [atP_beyond (by omega)] at hi; omega
      · intro h i hi h0
        have g := h i
        rw [← atP_short hok, atP_lt hi] at g
        exact g h0
    rw [hall]
    have h0 := hok.1
    rw [short_fst]
    split
    · rename_i hz
      constructor
      · rintro ⟨h1, h2⟩
        refine ⟨?_, h2⟩
        obtain ⟨j, hj, hjm⟩ := List.getElem_of_mem (maxL_mem hz.1)
        have e : atP (sumP l).2 j = maxL (sumP l).2 := by rw [atP_get hj, hjm]
        have g := h2 j (by rw [e]; have := hz.2; omega)
        have := least_in (hv j (by rw [e]; have := hz.2; omega)).1
        have := atP_in2 hok j
        have := hz.2
        omega
      · rintro ⟨h1, h2⟩
        exact ⟨by omega, h2⟩
    · exact Iff.rfl
/-! ### which variables there are -/
theorem inst_iff (vs : List Lv) {l : Lv} (h : Good l) : ∀ fs : List Nf, (instP vs l fs).1 = 0 ↔ ∀ i : Nat, i < vs.length → 0 ≤ atP (sumP l).2 i → soundB (lvAt vs i) = true := by
  induction h with
  | @mk k n ks h hk ih =>
    intro fs
    rcases good_cases (.mk h hk) with ⟨rfl, rfl, h0, h1⟩ | ⟨rfl, rfl, h0, h1⟩ | ⟨rfl, x, rfl, h0, h1, hx⟩ | ⟨rfl, x, y, rfl, hgx, hgy⟩
    · have hF : (instF vs 1 n fs).1 = 0 := by unfold instF; rw [if_neg (fun h => absurd h.1 (by decide))]
      rw [instP_go hF, instKs_nil, num_sum]
      exact ⟨fun _ i _ hi => by rw [atP_beyond (by simp)] at hi; omega, fun _ => rfl⟩
    · obtain ⟨i, rfl⟩ := Int.eq_ofNat_of_zero_le h0
      have hs : sumP (.mk 2 (i : Int) []) = (0, List.replicate i (-1) ++ [0]) := var_sum i
      rw [hs]
      simp only [atP_varN]
      by_cases hi : i < vs.length
      · cases hsd : soundB (lvAt vs i) with
        | true =>
          have hF : (instF vs 2 (i : Int) fs).1 = 0 := by unfold instF; rw [if_pos ⟨rfl, by omega⟩, if_pos hsd]
          rw [instP_go hF, instKs_nil]
          exact ⟨fun _ j _ hj => by split at hj; rename_i e; subst e; exact hsd; omega, fun _ => rfl⟩
        | false =>
          have hF : (instF vs 2 (i : Int) fs).1 = 1 := by unfold instF; rw [if_pos ⟨rfl, by omega⟩, if_neg (by rw [hsd]; decide)]
          rw [instP_stop (by rw [hF]; decide), hF]
          exact ⟨fun h => absurd h (by decide), fun h => by have := h i hi (by rw [if_pos rfl]; omega); rw [hsd] at this; cases this⟩
      · have hF : (instF vs 2 (i : Int) fs).1 = 0 := by unfold instF; rw [if_neg (fun h => hi (by omega))]
        rw [instP_go hF, instKs_nil]
        exact ⟨fun _ j hj1 hj => by split at hj; rename_i e; omega; omega, fun _ => rfl⟩
    · have hsx : sumP (.mk 3 n [x]) = plusN n (sumP x) := by show ofP [] _ = _; rw [ofP_succ]; rfl
      have hF : (instF vs 3 n fs).1 = 0 := by unfold instF; rw [if_neg (fun h => absurd h.1 (by decide))]
      rw [instP_go hF, hsx]
      have hpos : ∀ i : Nat, 0 ≤ addN n (atP (sumP x).2 i) ↔ 0 ≤ atP (sumP x).2 i := fun i => by unfold addN; split <;> omega
      simp only [atP_plus, hpos]
      have hi := ih x (by simp) (instF vs 3 n fs).2
      by_cases hx0 : (instP vs x (instF vs 3 n fs).2).1 = 0
      · rw [instKs_go hx0, instKs_nil]
        exact ⟨fun _ => hi.1 hx0, fun _ => rfl⟩
      · rw [instKs_stop hx0]
        exact hi
    · have hsx : sumP (.mk 4 n [x, y]) = orN (sumP x) (sumP y) := by show ofP [] _ = _; rw [ofP_max]; rfl
      have hF : (instF vs 4 n fs).1 = 0 := by unfold instF; rw [if_neg (fun h => absurd h.1 (by decide))]
      rw [instP_go hF, hsx]
      have hix := ih x (by simp) (instF vs 4 n fs).2
      by_cases hx0 : (instP vs x (instF vs 4 n fs).2).1 = 0
      · rw [instKs_go hx0]
        have hiy := ih y (by simp) (instP vs x (instF vs 4 n fs).2).2
        have hxx := hix.1 hx0
        by_cases hy0 : (instP vs y (instP vs x (instF vs 4 n fs).2).2).1 = 0
        · rw [instKs_go hy0, instKs_nil]
          have hyy := hiy.1 hy0
          exact ⟨fun _ i hi hp => by rw [atP_or] at hp; by_cases hpx : 0 ≤ atP (sumP x).2 i; exact hxx i hi hpx; exact hyy i hi (by omega), fun _ => rfl⟩
        · rw [instKs_stop hy0]
          exact ⟨fun h => absurd h hy0, fun h => absurd (hiy.2 fun i hi hp => h i hi (by rw [atP_or]; omega)) hy0⟩
      · rw [instKs_stop hx0]
        exact ⟨fun h => absurd h hx0, fun h => absurd (hix.2 fun i hi hp => h i hi (by rw [atP_or]; omega)) hx0⟩
end Go.Proofs.Ytjlhbaohippidaa

/-! RfT -/
namespace Go.Proofs.Ytjlhbaohippidaa
open Go.RowKit Go.Proofs.YtjlhbaohippidaaW.PrintWords Go.RegionInvYtjlhbaohippidaa Go.RegionEYtjlhbaohippidaa

def tdC (c : Int) (ks : List Int) : Int := ks.foldl (fun c k => if c ≤ k then 0 else c) c
theorem tdC_zero (ks : List Int) : tdC 0 ks = 0 := by
  unfold tdC
  induction ks with
  | nil => rfl
  | cons y r ih => rw [List.foldl_cons]; split <;> exact ih
theorem tdC_eq (c : Int) (ks : List Int) : tdC c ks = if ∃ x ∈ ks, c ≤ x then 0 else c := by
  induction ks with
  | nil => rw [if_neg (by rintro ⟨x, hx, -⟩; cases hx)]; rfl
  | cons y r ih =>
    have e : tdC c (y :: r) = tdC (if c ≤ y then 0 else c) r := rfl
    rw [e]
    by_cases h : c ≤ y
    · rw [if_pos h, tdC_zero, if_pos ⟨y, by simp, h⟩]
    · rw [if_neg h, ih]
      by_cases h2 : ∃ x ∈ r, c ≤ x
      · rw [if_pos h2, if_pos]
        obtain ⟨x, hx, h3⟩ := h2
        exact ⟨x, by simp [hx], h3⟩
      · rw [if_neg h2, if_neg]
        rintro ⟨x, hx, h3⟩
        rcases List.mem_cons.1 hx with rfl | hx
        · exact h h3
        · exact h2 ⟨x, hx, h3⟩
theorem tdC_next {c : Int} {ks : List Int} {j : Nat} {y : Int} (hj : j < ks.length) (hy : y = rd ks (j : Nat)) : tdC c (ks.take (j + 1)) = if tdC c (ks.take j) ≤ y then 0 else tdC c (ks.take j) := by
  rw [List.take_add_one, List.getElem?_eq_getElem hj]
  have : y = ks[j] := by rw [hy, rd_nat', List.getD_eq_getElem?_getD, List.getElem?_eq_getElem hj]; rfl
  subst this
  unfold tdC
  rw [List.foldl_append]
  rfl
theorem td_short {c : Int} {ks : List Int} (hc : 0 ≤ c) : (tdC c (ks.take (trimTo ks ks.length)), ks.take (trimTo ks ks.length)) = shortN (c, ks) := by
  unfold shortN
  simp only []
  congr 1
  rw [tdC_eq]
  have key : (∃ x ∈ ks.take (trimTo ks ks.length), c ≤ x) ↔ (ks ≠ [] ∧ c ≤ maxL ks) := by
    constructor
    · rintro ⟨x, hx, h⟩
      have hm := List.mem_of_mem_take hx
      exact ⟨(fun e => by rw [e] at hm; cases hm), (by have := maxL_ge x hm; omega)⟩
    · rintro ⟨h1, h2⟩
      obtain ⟨j, hj, hjm⟩ := List.getElem_of_mem (maxL_mem h1)
      have hr : rd ks (j : Nat) = maxL ks := by rw [rd_nat', List.getD_eq_getElem?_getD, List.getElem?_eq_getElem hj]; exact hjm
      have hlt : j < trimTo ks ks.length := by
        rcases Nat.lt_or_ge j (trimTo ks ks.length) with h | h
        · exact h
        · have := trim_neg ks ks.length j h hj; omega
      refine ⟨maxL ks, ?_, h2⟩
      rw [← hjm]
      exact List.mem_take_iff_getElem.2 ⟨j, by omega, rfl⟩
  by_cases h : ks ≠ [] ∧ c ≤ maxL ks
  · rw [if_pos (key.2 h), if_pos h]
  · rw [if_neg (fun h' => h (key.1 h')), if_neg h]
set_option maxHeartbeats 4000000 in
theorem tidy_calls (S : Nat → Prop) (A : Option Addr) (n cap : Nat) (c : Int) (ks : List Int) (w : World) (hr : IntsS w S A n ks) (hcap : n ≤ cap) (hc0 : 0 ≤ c) :
    Calls Try.prog 56 #[.agg #[.int .i64 c, .slice A n cap]] w (NfGot w S (shortN (c, ks))) := by
  have HR := Aside0.mk hr
  have HN := Aside0.mk hr.1.1
  have HC0 := Aside0.mk hc0
  clear hr hc0
  have hx1 := box0 w (.cells #[.int .i64 c, .slice A n cap] 62 (0, 0)) (.cells #[.int .i64 0, .slice none 0 0] 62 (0, 0))
  have hx2 := box1 w (.cells #[.int .i64 c, .slice A n cap] 62 (0, 0)) (.cells #[.int .i64 0, .slice none 0 0] 62 (0, 0))
  have hb2 : Below w.heap.size w ((w.alloc (.cells #[.int .i64 c, .slice A n cap] 62 (0, 0))).alloc (.cells #[.int .i64 0, .slice none 0 0] 62 (0, 0))) := below_alloc (below_alloc (Below.refl _ _) _) _
  have HX1 := Aside0.mk hx1
  have HX2 := Aside0.mk hx2
  have HB2 := Aside0.mk hb2
  clear hx1 hx2 hb2
  go_enter Try.func56, Try.ntmps56
  go_upto_block 0 with (fail)
  obtain ⟨W, hW⟩ : ∃ W, W = ((w.alloc (.cells #[.int .i64 c, .slice A n cap] 62 (0, 0))).alloc (.cells #[.int .i64 0, .slice none 0 0] 62 (0, 0))) := ⟨_, rfl⟩
  rw [← hW] at HX1 HX2 HB2 ⊢
  clear hW
  have hn9 := HR.out.1.2.1
  go_cut [] (fun wr => ∃ (j : Nat), j ≤ n ∧ Aside0 (trimTo ks n = j) ∧ Aside0 (wr.heap[w.heap.size]? = some (.cells #[.int .i64 c, .slice A j cap] 62 (0, 0))) ∧ Aside0 (wr.heap[w.heap.size + 1]? = some (.cells #[.int .i64 0, .slice none 0 0] 62 (0, 0))) ∧ Aside0 (Below w.heap.size w wr))
  case first =>
    go_wp2
    go_loopw [] (fun wr => ∃ (j : Nat), j ≤ n ∧ Aside0 (trimTo ks n = trimTo ks j) ∧ Aside0 (wr.heap[w.heap.size]? = some (.cells #[.int .i64 c, .slice A j cap] 62 (0, 0))) ∧ Aside0 (wr.heap[w.heap.size + 1]? = some (.cells #[.int .i64 0, .slice none 0 0] 62 (0, 0))) ∧ Aside0 (Below w.heap.size w wr)) (fun wr => lenAt wr w.heap.size)
    case atStart => exact ⟨n, Nat.le_refl _, ⟨rfl⟩, HX1, HX2, HB2⟩
    case round =>
      clear HX1 HX2 HB2
      obtain ⟨j, hj, HT, HX1, HX2, HB2⟩ := hrel
      obtain ⟨d0, d1, e0, e1⟩ := row2 HX1.out
      have HLA := Aside0.mk (lenAt_eq HX1.out)
      by_cases hj0 : 0 < j
      · obtain ⟨ad, rfl, hc⟩ := (HR.out.later HB2.out).1.at_ ((j - 1 : Nat) : Int) (by omega) (by omega)
        rw [Int.toNat_natCast] at hc
        obtain ⟨y, hy⟩ : ∃ y, y = rd ks ((j - 1 : Nat) : Int) := ⟨_, rfl⟩
        rw [← hy] at hc
        have HTT := Aside0.mk (show trimTo ks j = (if y < 0 then trimTo ks (j - 1) else j) by
          obtain ⟨i, rfl⟩ : ∃ i, j = i + 1 := ⟨j - 1, by omega⟩
          rw [trimTo, hy]; rfl)
        clear hy
        by_cases hy0 : y < 0
        · have HT' := Aside0.mk (show trimTo ks n = trimTo ks (j - 1) by rw [HT.out, HTT.out, if_pos hy0])
          go_wp2
          have hch := chg_set wr w.heap.size 1 (.slice (some ad) (j - 1) cap)
          have hx1 := blk_put HX1.out 1 (.slice (some ad) (j - 1) cap) rfl
          have hm := lenAt_eq hx1
          go_roundw
          case rel => exact ⟨j - 1, by omega, HT', ⟨hx1⟩, ⟨(hch.block _ (blk_lt HX2.out) (by omega)).trans HX2.out⟩, ⟨Chg.trans_below HB2.out hch (fun _ e => by omega) HB2.out.size⟩⟩
          case measure => rw [hm, HLA.out]; omega
        · have HT' := Aside0.mk (show trimTo ks n = j by rw [HT.out, HTT.out, if_neg hy0])
          go_wp2
          go_meet
          case rel => exact ⟨j, hj, HT', HX1, HX2, HB2⟩
      · obtain rfl : j = 0 := by omega
        have HT' := Aside0.mk (show trimTo ks n = 0 from HT.out)
        go_wp2
        go_meet
        case rel => exact ⟨0, hj, HT', HX1, HX2, HB2⟩
  case rest =>
    clear HX1 HX2 HB2
    obtain ⟨j, hj, HT, HX1, HX2, HB2⟩ := hcut
    obtain ⟨d0, d1, e0, e1⟩ := row2 HX1.out
    go_upto_block 2 with (fail)
    go_cut [] (fun wr => Aside0 (wr.heap[w.heap.size]? = some (.cells #[.int .i64 (tdC c (ks.take j)), .slice A j cap] 62 (0, 0))) ∧ Aside0 (wr.heap[w.heap.size + 1]? = some (.cells #[.int .i64 0, .slice none 0 0] 62 (0, 0))) ∧ Aside0 (Below w.heap.size w wr))
    case first =>
      clear d0 d1 e0 e1
      go_wp2
      go_loopw [31] (fun i wr => ∃ (k : Nat) (c' : Int), i = .int .i64 k ∧ k ≤ j ∧ Aside0 (c' = tdC c (ks.take k)) ∧ Aside0 (wr.heap[w.heap.size]? = some (.cells #[.int .i64 c', .slice A j cap] 62 (0, 0))) ∧ Aside0 (wr.heap[w.heap.size + 1]? = some (.cells #[.int .i64 0, .slice none 0 0] 62 (0, 0))) ∧ Aside0 (Below w.heap.size w wr)) (fun i _ => j - (intOf i).toNat)
      case atStart => exact ⟨0, c, rfl, Nat.zero_le _, ⟨rfl⟩, HX1, HX2, HB2⟩
      case round =>
        clear HX1 HX2 HB2
        obtain ⟨k, c', rfl, hk, HTD, HX1, HX2, HB2⟩ := hrel
        obtain ⟨d0, d1, e0, e1⟩ := row2 HX1.out
        by_cases hlt : k < j
        · obtain ⟨ad, rfl, hc⟩ := (HR.out.later HB2.out).1.at_ (k : Int) (by omega) (by omega)
          rw [Int.toNat_natCast] at hc
          obtain ⟨y, hy⟩ : ∃ y, y = rd ks (k : Int) := ⟨_, rfl⟩
          rw [← hy] at hc
          have HTN := Aside0.mk (tdC_next (c := c) (show k < ks.length by rw [HN.out]; omega) hy)
          clear hy
          by_cases hcy : c' ≤ y
          · have HT2 := Aside0.mk (show (0 : Int) = tdC c (ks.take (k + 1)) by rw [HTN.out, ← HTD.out, if_pos hcy])
            go_wp2
            have hch := chg_set wr w.heap.size 0 (.int .i64 0)
            have hx1 := blk_put HX1.out 0 (.int .i64 0) rfl
            go_roundw
            case rel => exact ⟨k + 1, 0, by go_num, by omega, HT2, ⟨hx1⟩, ⟨(hch.block _ (blk_lt HX2.out) (by omega)).trans HX2.out⟩, ⟨Chg.trans_below HB2.out hch (fun _ e => by omega) HB2.out.size⟩⟩
            case measure => (simp [intOf]; try omega)
          · have HT2 := Aside0.mk (show c' = tdC c (ks.take (k + 1)) by rw [HTN.out, ← HTD.out, if_neg hcy])
            go_wp2
            go_roundw
            case rel => exact ⟨k + 1, c', by go_num, by omega, HT2, HX1, HX2, HB2⟩
            case measure => (simp [intOf]; try omega)
        · obtain rfl : k = j := by omega
          have hlt' : decide ((k : Int) < k) = false := by simp
          go_wp2
          go_meet
          case rel => rw [← HTD.out]; exact ⟨HX1, HX2, HB2⟩
    case rest =>
      clear HX1 HX2 HB2 d0 d1 e0 e1
      obtain ⟨HX1, HX2, HB2⟩ := hcut
      have HE := Aside0.mk (show shortN (c, ks) = (tdC c (ks.take j), ks.take j) by have h := td_short (ks := ks) HC0.out; rw [HN.out, HT.out] at h; exact h.symm)
      obtain ⟨c', hc'⟩ : ∃ c', c' = tdC c (ks.take j) := ⟨_, rfl⟩
      rw [← hc'] at HX1 HE
      clear hc'
      obtain ⟨d0, d1, e0, e1⟩ := row2 HX1.out
      obtain ⟨f0, f1, g0, g1⟩ := row2 HX2.out
      go_wp2
      refine bodyPost_ret (results_c rfl _ _ (w.heap.size + 1) 62 #[.int .i64 c', .slice A j cap] (0, 0) _ rfl (set2 HX2.out) Try.underlying62 rfl (by kernel_rfl)) rfl ?_
      have hb' := Chg.trans_below HB2.out (chg_set2 wc (w.heap.size + 1) (.int .i64 c') (.slice A j cap)) (fun _ e => by omega) HB2.out.size
      refine ⟨A, j, cap, by rw [HE.out], by omega, ?_, hb'⟩
      rw [HE.out]
      exact ((HR.out.take hj).later hb').mono fun _ h _ => .inl h
end Go.Proofs.Ytjlhbaohippidaa

/-! RfPl -/
namespace Go.Proofs.Ytjlhbaohippidaa
open Go.RowKit Go.Proofs.YtjlhbaohippidaaW.PrintWords Go.RegionInvYtjlhbaohippidaa Go.RegionEYtjlhbaohippidaa

/-- The box of a sum that is made, at o; its row V. -/
structure MkF (w wr : World) (o : Nat) (x : Int) (V : Value) (ys : List Int) : Prop where
  box : wr.heap[o]? = some (.cells #[.int .i64 x, V] 62 (0, 0))
  row : wr.ownsRow (o + 1) 3 1 V ys.length (nums .i64 ys)
  bel : Below w.heap.size w wr
theorem MkF.grow {w wr w6 : World} {o : Nat} {x : Int} {V V6 : Value} {ys zs : List Int} (h : MkF w wr o x V ys) (ho : w.heap.size ≤ o) (ho6 : w6.ownsRow (o + 1) 3 1 V6 zs.length (nums .i64 zs)) (hg : wr.grownBy w6 V.ownBlock) :
    w6.heap[o]? = some (.cells #[.int .i64 x, V] 62 (0, 0)) ∧ (∀ (g : Nat) (ob : Obj), g ≤ o → wr.heap[g]? = some ob → w6.heap[g]? = some ob) ∧ MkF w (w6.setCell ⟨o, 1, none⟩ V6) o x V6 zs := by
  have far : ∀ k, k < o + 1 → some k ≠ V.ownBlock := fun k hk e => by have := own_base h.row k e.symm; omega
  have h1 : w6.heap[o]? = some (.cells #[.int .i64 x, V] 62 (0, 0)) := (hg.block _ (blk_lt h.box) (far _ (by omega))).trans h.box
  have hb : Below w.heap.size w w6 := ⟨hg.os.trans h.bel.os, hg.tape.trans h.bel.tape, hg.output.trans h.bel.output, Nat.le_trans h.bel.size hg.size, fun i hi => (hg.block i (Nat.lt_of_lt_of_le hi h.bel.size) (far i (by omega))).trans (h.bel.block i hi)⟩
  have hch := chg_set w6 o 1 V6
  refine ⟨h1, fun g ob hgo hgb => (hg.block _ (blk_lt hgb) (far _ (by omega))).trans hgb, ⟨blk_put h1 1 V6 rfl, ?_, Chg.trans_below hb hch (fun _ e => by omega) hb.size⟩⟩
  exact own_setCell ho6 (fun e => by have := own_base ho6 o e.symm; omega) _
theorem plusR_pos {k c : Int} {ks : List Int} (h : ks = [] ∨ 0 < c) : plusR k (c, ks) = (min 1099511627776 (c + k), ks.map (addN k)) := by unfold plusR; rw [if_pos h]
theorem plusR_neg {k c : Int} {ks : List Int} (h : ¬ (ks = [] ∨ 0 < c)) : plusR k (c, ks) = (c, ks.map (addN k)) := by unfold plusR; rw [if_neg h]
set_option maxHeartbeats 4000000 in
theorem refPlus_calls (A : Option Addr) (n cap : Nat) (c k : Int) (ks : List Int) (w : World) (hr : ReadsInt w .i64 A n ks) (hc0 : 0 ≤ c) (hc1 : c ≤ 1099511627776) (hk0 : 0 ≤ k) (hk1 : k ≤ 1099511627776) (hks : ∀ x ∈ ks, -1 ≤ x ∧ x ≤ 1099511627776) (hl : n ≤ 1000000) :
    Calls Try.prog 46 #[.agg #[.int .i64 c, .slice A n cap], .int .i64 k] w (NfGot w (fun _ => False) (shortN (plusR k (c, ks)))) := by
  have HR := Aside0.mk hr
  have HN := Aside0.mk hr.1
  have HKS := Aside0.mk hks
  clear hr hks
  obtain ⟨W, hW⟩ : ∃ W, W = ((w.alloc (.cells #[.int .i64 c, .slice A n cap] 62 (0, 0))).alloc (.cells #[.int .i64 0, .slice none 0 0] 62 (0, 0))).alloc (.cells #[.int .i64 c, .slice none 0 0] 62 (0, 0)) := ⟨_, rfl⟩
  have hx1 : W.heap[w.heap.size]? = some (.cells #[.int .i64 c, .slice A n cap] 62 (0, 0)) := by rw [hW]; exact blk_alloc (box0 w _ _) _
  have hres : W.heap[w.heap.size + 1]? = some (.cells #[.int .i64 0, .slice none 0 0] 62 (0, 0)) := by rw [hW]; exact blk_alloc (box1 w _ _) _
  have hst : MkF w W (w.heap.size + 1 + 1) c (.slice none 0 0) [] := by
    rw [hW]
    refine ⟨?_, own_nil _ _ _ _, below_alloc (below_alloc (below_alloc (Below.refl _ _) _) _) _⟩
    have := blk_new ((w.alloc (.cells #[.int .i64 c, .slice A n cap] 62 (0, 0))).alloc (.cells #[.int .i64 0, .slice none 0 0] 62 (0, 0))) (.cells #[.int .i64 c, .slice none 0 0] 62 (0, 0))
    simpa using this
  have HX1 := Aside0.mk hx1
  have HRES := Aside0.mk hres
  have HST := Aside0.mk hst
  clear hx1 hres hst
  go_enter Try.func46, Try.ntmps46
  go_upto_region 3 with (fail)
  rw [← hW]
  clear hW
  obtain ⟨x, hx⟩ : ∃ x, x = (plusR k (c, ks)).1 := ⟨_, rfl⟩
  have HPE := Aside0.mk (show plusR k (c, ks) = (x, ks.map (addN k)) by rw [hx]; rfl)
  have HXX := Aside0.mk (show 0 ≤ x by have := hx; unfold plusR at this; simp only [] at this; split at this <;> omega)
  have HPX := Aside0.mk hx
  clear hx
  obtain ⟨a0, a1, -, -⟩ := row2 HX1.out
  obtain ⟨d0, d1, e0, e1⟩ := row2 HST.out.box
  go_cut [19] (fun v wr => v = .bool (decide (ks = [] ∨ 0 < c)) ∧ Aside0 (MkF w wr (w.heap.size + 1 + 1) c (.slice none 0 0) []) ∧ Aside0 (wr.heap[w.heap.size]? = some (.cells #[.int .i64 c, .slice A n cap] 62 (0, 0))) ∧ Aside0 (wr.heap[w.heap.size + 1]? = some (.cells #[.int .i64 0, .slice none 0 0] 62 (0, 0))))
  case first =>
    by_cases hn : n = 0
    · subst hn
      have HB := Aside0.mk (show decide (ks = [] ∨ 0 < c) = true from decide_eq_true (.inl (List.eq_nil_of_length_eq_zero HN.out)))
      go_wp2
      go_meet
      case rel => exact ⟨by rw [HB.out], HST, HX1, HRES⟩
    · have hn0 : ((n : Int) == 0) = false := by simp [hn]
      have HKN := Aside0.mk (show ks ≠ [] from fun e => hn (by rw [← HN.out, e]; rfl))
      by_cases hc : 0 < c
      · have HB := Aside0.mk (show decide (ks = [] ∨ 0 < c) = true from decide_eq_true (.inr hc))
        have hcd : decide (0 < c) = true := decide_eq_true hc
        clear hc
        go_wp2
        go_meet
        case rel => exact ⟨by rw [HB.out], HST, HX1, HRES⟩
      · have HB := Aside0.mk (show decide (ks = [] ∨ 0 < c) = false from decide_eq_false (fun h => h.elim HKN.out hc))
        have hcd : decide (0 < c) = false := decide_eq_false hc
        clear hc
        go_wp2
        go_meet
        case rel => exact ⟨by rw [HB.out], HST, HX1, HRES⟩
  case rest =>
  clear HX1 HRES HST a0 a1 d0 d1 e0 e1
  obtain ⟨rfl, HST, HX1, HRES⟩ := hcut
  obtain ⟨a0, a1, -, -⟩ := row2 HX1.out
  obtain ⟨d0, d1, e0, e1⟩ := row2 HST.out.box
  obtain ⟨bb, hbb⟩ : ∃ bb, bb = decide (ks = [] ∨ 0 < c) := ⟨_, rfl⟩
  rw [← hbb]
  have HPB := Aside0.mk (show x = if bb = true then min 1099511627776 (c + k) else c by
    rw [HPX.out, hbb]; unfold plusR; simp only [decide_eq_true_eq])
  clear hbb
  go_upto_if 19 with (fail)
  go_cut [] (fun wr => Aside0 (MkF w wr (w.heap.size + 1 + 1) x (.slice none 0 0) []) ∧ Aside0 (wr.heap[w.heap.size]? = some (.cells #[.int .i64 c, .slice A n cap] 62 (0, 0))) ∧ Aside0 (wr.heap[w.heap.size + 1]? = some (.cells #[.int .i64 0, .slice none 0 0] 62 (0, 0))))
  case first =>
    cases bb with
    | true =>
      by_cases hck : c + k ≤ 1099511627776
      · have HXE := Aside0.mk (show x = c + k by rw [HPB.out, if_pos rfl]; omega)
        go_wp2
        go_meet
        have hch := chg_set wc (w.heap.size + 1 + 1) 0 (.int .i64 (c + k))
        case rel => rw [HXE.out]; exact ⟨⟨⟨blk_put HST.out.box 0 _ rfl, own_nil _ _ _ _, Chg.trans_below HST.out.bel hch (fun _ e => by omega) HST.out.bel.size⟩⟩, ⟨(hch.block _ (blk_lt HX1.out) (by omega)).trans HX1.out⟩, ⟨(hch.block _ (blk_lt HRES.out) (by omega)).trans HRES.out⟩⟩
      · have HXE := Aside0.mk (show x = 1099511627776 by rw [HPB.out, if_pos rfl]; omega)
        go_wp2
        go_meet
        have hch := chg_set wc (w.heap.size + 1 + 1) 0 (.int .i64 (1099511627776))
        case rel => rw [HXE.out]; exact ⟨⟨⟨blk_put HST.out.box 0 _ rfl, own_nil _ _ _ _, Chg.trans_below HST.out.bel hch (fun _ e => by omega) HST.out.bel.size⟩⟩, ⟨(hch.block _ (blk_lt HX1.out) (by omega)).trans HX1.out⟩, ⟨(hch.block _ (blk_lt HRES.out) (by omega)).trans HRES.out⟩⟩
    | false =>
      have HXE := Aside0.mk (show x = c by rw [HPB.out]; rfl)
      go_wp2
      go_meet
      case rel => rw [HXE.out]; exact ⟨HST, HX1, HRES⟩
  case rest =>
    clear HX1 HRES HST a0 a1 d0 d1 e0 e1
    obtain ⟨HST, HX1, HRES⟩ := hcut
    obtain ⟨a0, a1, -, -⟩ := row2 HX1.out
    go_upto_block 0 with (fail)
    go_cut [] (fun wr => ∃ V, Aside0 (MkF w wr (w.heap.size + 1 + 1) x V (ks.map (addN k))) ∧ Aside0 (wr.heap[w.heap.size + 1]? = some (.cells #[.int .i64 0, .slice none 0 0] 62 (0, 0))))
    case first =>
      clear a0 a1
      go_wp2
      go_loopw [29] (fun i wr => ∃ (j : Nat) (V : Value), i = .int .i64 j ∧ j ≤ n ∧ Aside0 (MkF w wr (w.heap.size + 1 + 1) x V ((ks.take j).map (addN k))) ∧ Aside0 (wr.heap[w.heap.size + 1]? = some (.cells #[.int .i64 0, .slice none 0 0] 62 (0, 0)))) (fun i _ => n - (intOf i).toNat)
      case atStart => exact ⟨0, _, rfl, Nat.zero_le _, HST, HRES⟩
      case round =>
        clear HST HRES HX1
        obtain ⟨j, V, rfl, hj, HST, HRES⟩ := hrel
        obtain ⟨d0, d1, -, e1⟩ := row2 HST.out.box
        obtain ⟨A0, c0, rfl⟩ := own_slice HST.out.row
        obtain ⟨L, hL⟩ : ∃ L, L = ((ks.take j).map (addN k)).length := ⟨_, rfl⟩
        rw [← hL] at HST d1
        have HL := Aside0.mk hL
        have HLJ := Aside0.mk (show L = j by rw [hL]; simp; have := HN.out; omega)
        clear hL
        by_cases hlt : j < n
        · obtain ⟨ad, rfl, hcell⟩ := (HR.out.below HST.out.bel).at_ j (by omega) (by omega)
          rw [Int.toNat_natCast] at hcell
          obtain ⟨y, hy⟩ : ∃ y, y = rd ks (j : Int) := ⟨_, rfl⟩
          rw [← hy] at hcell
          have hmem : -1 ≤ y ∧ y ≤ 1099511627776 := by
            rw [hy, rd_nat', List.getD_eq_getElem?_getD, List.getElem?_eq_getElem (by rw [HN.out]; exact hlt)]
            exact HKS.out _ (List.getElem_mem _)
          have hget : ks[j]? = some y := by rw [hy, rd_nat', List.getD_eq_getElem?_getD, List.getElem?_eq_getElem (by rw [HN.out]; exact hlt)]; rfl
          have HT := Aside0.mk (show (ks.take (j + 1)).map (addN k) = (ks.take j).map (addN k) ++ [addN k y] by
            rw [List.take_add_one, hget, List.map_append]; rfl)
          clear hget
          have HLEN := Aside0.mk (show ((ks.take j).map (addN k)).length = j by rw [← HL.out]; exact HLJ.out)
          have hbase : w.heap.size + 1 + 1 + 1 ≤ wr.heap.size := blk_lt HST.out.box
          clear hy
          by_cases h0 : 0 ≤ y
          · have HA := Aside0.mk (show addN k y = (if 1099511627776 < y + k then 1099511627776 else y + k) by unfold addN; rw [if_pos h0]; omega)
            go_wp2_with (first
              | (at_builtin; go_must (refine print_append_num (w0 := wr) (w.heap.size + 1 + 1 + 1) rfl (.tmp 40) (.tmp 42) 29 3 .i64 8 rfl Try.underlying29 infoI64 (by decide) (.slice A0 L c0) ((ks.take j).map (addN k)) _ rfl rfl HST.out.row (Below.refl _ _) hbase (by rw [HLEN.out]; omega) ?_; intro v1 w1 ho _ hg _; obtain ⟨A6, L6, c6, rfl, -⟩ := own_slice' ho; have HG := Aside0.mk (HST.out.grow (Nat.le_of_lt (by omega)) ho hg); have HR6 := Aside0.mk (HG.out.2.1 _ _ (by omega) HRES.out); obtain ⟨d0, d1, -, e1⟩ := row2 HG.out.1; clear ho hg)))
            go_roundw
            case rel =>
              refine ⟨j + 1, .slice A6 L6 c6, by go_num, by omega, ⟨?_⟩, ⟨((chg_set w1 (w.heap.size + 1 + 1) 1 _).block _ (blk_lt HR6.out) (by omega)).trans HR6.out⟩⟩
              rw [HT.out, HA.out]
              exact HG.out.2.2
            case measure => (simp [intOf]; try omega)
          · have HA := Aside0.mk (show addN k y = y by unfold addN; rw [if_neg h0])
            go_wp2_with (first
              | (at_builtin; go_must (refine print_append_num (w0 := wr) (w.heap.size + 1 + 1 + 1) rfl (.tmp 40) (.tmp 42) 29 3 .i64 8 rfl Try.underlying29 infoI64 (by decide) (.slice A0 L c0) ((ks.take j).map (addN k)) _ rfl rfl HST.out.row (Below.refl _ _) hbase (by rw [HLEN.out]; omega) ?_; intro v1 w1 ho _ hg _; obtain ⟨A6, L6, c6, rfl, -⟩ := own_slice' ho; have HG := Aside0.mk (HST.out.grow (Nat.le_of_lt (by omega)) ho hg); have HR6 := Aside0.mk (HG.out.2.1 _ _ (by omega) HRES.out); obtain ⟨d0, d1, -, e1⟩ := row2 HG.out.1; clear ho hg)))
            go_roundw
            case rel =>
              refine ⟨j + 1, .slice A6 L6 c6, by go_num, by omega, ⟨?_⟩, ⟨((chg_set w1 (w.heap.size + 1 + 1) 1 _).block _ (blk_lt HR6.out) (by omega)).trans HR6.out⟩⟩
              rw [HT.out, HA.out]
              exact HG.out.2.2
            case measure => (simp [intOf]; try omega)
        · obtain rfl : j = n := by omega
          have hlt' : decide ((j : Int) < j) = false := by simp
          have HKT := Aside0.mk (show ks.take j = ks from List.take_of_length_le (by rw [HN.out]; exact Nat.le_refl _))
          go_wp2
          go_meet
          case rel => rw [HKT.out, HL.out, HKT.out] at HST; exact ⟨_, HST, HRES⟩
    case rest =>
      clear HST HX1 HRES a0 a1
      obtain ⟨V, HST, HRES⟩ := hcut
      obtain ⟨A9, c9, rfl, hcap, hints⟩ := IntsS.of_own HST.out.row
      obtain ⟨L, hL⟩ : ∃ L, L = (ks.map (addN k)).length := ⟨_, rfl⟩
      rw [← hL] at HST hcap hints
      have HI := Aside0.mk hints
      have HCAP := Aside0.mk hcap
      obtain ⟨d0, d1, -, -⟩ := row2 HST.out.box
      clear hL hints hcap
      go_wp2_with (first
        | (go_at_call 56; go_must (refine (tidy_calls (fun b => w.heap.size + 1 + 1 + 1 ≤ b) A9 L c9 x (ks.map (addN k)) _ HI.out HCAP.out HXX.out).mono ?_; rw [← HPE.out]; obtain ⟨f, hf⟩ : ∃ f, f = shortN (plusR k (c, ks)) := ⟨_, rfl⟩; rw [← hf]; have HF := Aside0.mk hf; rintro e w2 ⟨A2, n2, c2, rfl, hcap2, hi2, hb⟩; have HI2 := Aside0.mk hi2; have HCAP2 := Aside0.mk hcap2; have HZ2 := Aside0.mk (blk_lt HST.out.box); have HB2 := Aside0.mk (below_then HST.out.bel HST.out.bel.size hb); have HR2 := Aside0.mk (blk_below HRES.out hb); obtain ⟨f0, f1, g0, g1⟩ := row2 HR2.out; clear hb hi2 hcap2 hf)))
      have hch := chg_set2 w2 (w.heap.size + 1) (.int .i64 f.1) (.slice A2 n2 c2)
      refine bodyPost_ret (results_c rfl _ _ (w.heap.size + 1) 62 #[.int .i64 f.1, .slice A2 n2 c2] (0, 0) _ rfl (set2 HR2.out) Try.underlying62 rfl (by kernel_rfl)) rfl ?_
      rw [← HF.out]
      have hz2 := HZ2.out
      exact ⟨A2, n2, c2, rfl, HCAP2.out, (HI2.out.same fun b hb hz => hch.block b hz (by rcases hb with hb | hb <;> omega)).mono fun b hb _ => .inr (by rcases hb with hb | hb <;> omega), Chg.trans_below HB2.out hch (fun _ e => by omega) HB2.out.size⟩
end Go.Proofs.Ytjlhbaohippidaa

/-! RfBo -/
namespace Go.Proofs.Ytjlhbaohippidaa
open Go.RowKit Go.Proofs.YtjlhbaohippidaaW.PrintWords Go.RegionInvYtjlhbaohippidaa Go.RegionEYtjlhbaohippidaa

structure OrF (w wr : World) (c c' : Int) (B B' : Value) : Prop where
  x2 : wr.heap[w.heap.size]? = some (.cells #[.int .i64 c, B] 62 (0, 0))
  x3 : wr.heap[w.heap.size + 1]? = some (.cells #[.int .i64 c', B'] 62 (0, 0))
  x4 : wr.heap[w.heap.size + 1 + 1]? = some (.cells #[.int .i64 0, .slice none 0 0] 62 (0, 0))
theorem orK_all {f g : Nf} : orN f g = (max f.1 g.1, orK f.2 g.2 (max f.2.length g.2.length)) := rfl
set_option maxHeartbeats 8000000 in
theorem refBoth_calls (A A' : Option Addr) (n cap n' cap' : Nat) (c c' : Int) (ks ks' : List Int) (w : World) (hr : ReadsInt w .i64 A n ks) (hr' : ReadsInt w .i64 A' n' ks') (hc0 : 0 ≤ c) (hks : ∀ x ∈ ks, -1 ≤ x ∧ x ≤ 1099511627776) (hks' : ∀ x ∈ ks', -1 ≤ x ∧ x ≤ 1099511627776) (hl : n ≤ 1000000) (hl' : n' ≤ 1000000) :
    Calls Try.prog 45 #[.agg #[.int .i64 c, .slice A n cap], .agg #[.int .i64 c', .slice A' n' cap']] w (NfGot w (fun _ => False) (shortN (orN (c, ks) (c', ks')))) := by
  have HR := Aside0.mk hr
  have HR' := Aside0.mk hr'
  have HN := Aside0.mk hr.1
  have HN' := Aside0.mk hr'.1
  have HKS := Aside0.mk hks
  have HKS' := Aside0.mk hks'
  clear hr hr' hks hks'
  go_enter Try.func45, Try.ntmps45
  go_upto_region 2 with (fail)
  obtain ⟨x, hx⟩ : ∃ x, x = (if c < c' then c' else c) := ⟨_, rfl⟩
  rw [← hx]
  have HXE := Aside0.mk (show x = max c c' by rw [hx]; omega)
  have HXX := Aside0.mk (show 0 ≤ x by rw [hx]; split <;> omega)
  clear hx
  go_upto_block 0 with (fail)
  obtain ⟨W, hW⟩ : ∃ W, W = ((((w.alloc (.cells #[.int .i64 c, .slice A n cap] 62 (0, 0))).alloc (.cells #[.int .i64 c', .slice A' n' cap'] 62 (0, 0))).alloc (.cells #[.int .i64 0, .slice none 0 0] 62 (0, 0))).alloc (.cells #[.int .i64 x, .slice none 0 0] 62 (0, 0))) := ⟨_, rfl⟩
  have hst : MkF w W (w.heap.size + 1 + 1 + 1) x (.slice none 0 0) [] := by
    rw [hW]
    refine ⟨?_, own_nil _ _ _ _, below_alloc (below_alloc (below_alloc (below_alloc (Below.refl _ _) _) _) _) _⟩
    have := blk_new (((w.alloc (.cells #[.int .i64 c, .slice A n cap] 62 (0, 0))).alloc (.cells #[.int .i64 c', .slice A' n' cap'] 62 (0, 0))).alloc (.cells #[.int .i64 0, .slice none 0 0] 62 (0, 0))) (.cells #[.int .i64 x, .slice none 0 0] 62 (0, 0))
    simpa using this
  have hres : OrF w W c c' (.slice A n cap) (.slice A' n' cap') := by
    rw [hW]
    refine ⟨blk_alloc (blk_alloc (box0 _ _ _) _) _, blk_alloc (blk_alloc (box1 _ _ _) _) _, blk_alloc ?_ _⟩
    have := blk_new ((w.alloc (.cells #[.int .i64 c, .slice A n cap] 62 (0, 0))).alloc (.cells #[.int .i64 c', .slice A' n' cap'] 62 (0, 0))) (.cells #[.int .i64 0, .slice none 0 0] 62 (0, 0))
    simpa using this
  have HST := Aside0.mk hst
  have HRES := Aside0.mk hres
  rw [← hW]
  clear hst hres hW
  obtain ⟨m, hm⟩ : ∃ m : Nat, (m : Int) = (if n < n' then (n' : Int) else n) := ⟨max n n', by omega⟩
  rw [← hm]
  have HM := Aside0.mk (show m = max ks.length ks'.length by rw [HN.out, HN'.out]; omega)
  have hmn : m = max n n' := by omega
  have HMN := Aside0.mk hmn
  have hml : m ≤ 1000000 := by omega
  clear hm hmn
  go_cut [] (fun wr => ∃ V, Aside0 (MkF w wr (w.heap.size + 1 + 1 + 1) x V (orK ks ks' m)) ∧ Aside0 (OrF w wr c c' (.slice A n cap) (.slice A' n' cap')))
  case first =>
    go_wp2
    go_loopw [21] (fun i wr => ∃ (j : Nat) (V : Value), i = .int .i64 j ∧ j ≤ m ∧ Aside0 (MkF w wr (w.heap.size + 1 + 1 + 1) x V (orK ks ks' j)) ∧ Aside0 (OrF w wr c c' (.slice A n cap) (.slice A' n' cap'))) (fun i _ => m - (intOf i).toNat)
    case atStart => exact ⟨0, _, rfl, Nat.zero_le _, HST, HRES⟩
    case round =>
      clear HST HRES
      obtain ⟨j, V, rfl, hj, HST, HRES⟩ := hrel
      by_cases hlt : j < m
      · obtain ⟨d0, d1, -, e1⟩ := row2 HST.out.box
        obtain ⟨a0, a1, -, -⟩ := row2 HRES.out.x2
        obtain ⟨b0, b1, -, -⟩ := row2 HRES.out.x3
        obtain ⟨A0, c0, rfl⟩ := own_slice HST.out.row
        obtain ⟨L, hL⟩ : ∃ L, L = (orK ks ks' j).length := ⟨_, rfl⟩
        rw [← hL] at HST d1
        have HLJ := Aside0.mk (show L = j by rw [hL, orK_len])
        have HLEN := Aside0.mk (show (orK ks ks' j).length = j from orK_len _ _ _)
        have hbase : w.heap.size + 1 + 1 + 1 + 1 ≤ wr.heap.size := blk_lt HST.out.box
        have HT := Aside0.mk (orK_succ ks ks' j)
        clear hL
        by_cases h1 : j < n
        · obtain ⟨p, rfl, hc1⟩ := (HR.out.below HST.out.bel).at_ j (by omega) (by omega)
          rw [Int.toNat_natCast] at hc1
          obtain ⟨y, hy⟩ : ∃ y, y = rd ks (j : Int) := ⟨_, rfl⟩
          rw [← hy] at hc1
          have HAy := Aside0.mk (show atP ks j = y by rw [hy]; exact atP_lt (by rw [HN.out]; exact h1))
          have HMy := Aside0.mk (show -1 ≤ y ∧ y ≤ 1099511627776 by rw [hy, rd_nat', List.getD_eq_getElem?_getD, List.getElem?_eq_getElem (by rw [HN.out]; exact h1)]; exact HKS.out _ (List.getElem_mem _))
          clear hy
          by_cases h2 : j < n'
          · obtain ⟨p', rfl, hc2⟩ := (HR'.out.below HST.out.bel).at_ j (by omega) (by omega)
            rw [Int.toNat_natCast] at hc2
            obtain ⟨z, hz⟩ : ∃ z, z = rd ks' (j : Int) := ⟨_, rfl⟩
            rw [← hz] at hc2
            have HAz := Aside0.mk (show atP ks' j = z by rw [hz]; exact atP_lt (by rw [HN'.out]; exact h2))
            have HMz := Aside0.mk (show -1 ≤ z ∧ z ≤ 1099511627776 by rw [hz, rd_nat', List.getD_eq_getElem?_getD, List.getElem?_eq_getElem (by rw [HN'.out]; exact h2)]; exact HKS'.out _ (List.getElem_mem _))
            clear hz
            have HE := Aside0.mk (show max (atP ks j) (atP ks' j) = (if y < z then z else y) by rw [HAy.out, HAz.out]; omega)
            go_wp2_with (first
              | (at_builtin; go_must (refine print_append_num (w0 := wr) (w.heap.size + 1 + 1 + 1 + 1) rfl (.tmp 47) (.tmp 49) 29 3 .i64 8 rfl Try.underlying29 infoI64 (by decide) (.slice A0 L c0) (orK ks ks' j) _ rfl rfl (by have h := HST.out.row; rw [HLJ.out, HLEN.out] at h; rw [HLJ.out, HLEN.out]; exact h) (Below.refl _ _) hbase (by rw [HLEN.out]; omega) ?_; intro v1 w1 ho _ hg _; obtain ⟨A6, L6, c6, rfl, -⟩ := own_slice' ho; have HG := Aside0.mk (HST.out.grow (Nat.le_of_lt (by omega)) ho hg); have HR6 := Aside0.mk (show OrF w w1 c c' _ _ from ⟨HG.out.2.1 _ _ (by omega) HRES.out.x2, HG.out.2.1 _ _ (by omega) HRES.out.x3, HG.out.2.1 _ _ (by omega) HRES.out.x4⟩); obtain ⟨d0, d1, -, e1⟩ := row2 HG.out.1; clear ho hg)))
            go_roundw
            case rel =>
              have hch := chg_set w1 (w.heap.size + 1 + 1 + 1) 1 (.slice A6 L6 c6)
              refine ⟨j + 1, .slice A6 L6 c6, by go_num, by omega, ⟨?_⟩, ⟨⟨(hch.block _ (blk_lt HR6.out.x2) (by omega)).trans HR6.out.x2, (hch.block _ (blk_lt HR6.out.x3) (by omega)).trans HR6.out.x3, (hch.block _ (blk_lt HR6.out.x4) (by omega)).trans HR6.out.x4⟩⟩⟩
              rw [HT.out, HE.out]
              exact HG.out.2.2
            case measure => (simp [intOf]; try omega)
          · have HE := Aside0.mk (show max (atP ks j) (atP ks' j) = y by rw [HAy.out, atP_beyond (by rw [HN'.out]; omega)]; have := HMy.out; omega)
            go_wp2_with (first
              | (at_builtin; go_must (refine print_append_num (w0 := wr) (w.heap.size + 1 + 1 + 1 + 1) rfl (.tmp 47) (.tmp 49) 29 3 .i64 8 rfl Try.underlying29 infoI64 (by decide) (.slice A0 L c0) (orK ks ks' j) _ rfl rfl (by have h := HST.out.row; rw [HLJ.out, HLEN.out] at h; rw [HLJ.out, HLEN.out]; exact h) (Below.refl _ _) hbase (by rw [HLEN.out]; omega) ?_; intro v1 w1 ho _ hg _; obtain ⟨A6, L6, c6, rfl, -⟩ := own_slice' ho; have HG := Aside0.mk (HST.out.grow (Nat.le_of_lt (by omega)) ho hg); have HR6 := Aside0.mk (show OrF w w1 c c' _ _ from ⟨HG.out.2.1 _ _ (by omega) HRES.out.x2, HG.out.2.1 _ _ (by omega) HRES.out.x3, HG.out.2.1 _ _ (by omega) HRES.out.x4⟩); obtain ⟨d0, d1, -, e1⟩ := row2 HG.out.1; clear ho hg)))
            go_roundw
            case rel =>
              have hch := chg_set w1 (w.heap.size + 1 + 1 + 1) 1 (.slice A6 L6 c6)
              refine ⟨j + 1, .slice A6 L6 c6, by go_num, by omega, ⟨?_⟩, ⟨⟨(hch.block _ (blk_lt HR6.out.x2) (by omega)).trans HR6.out.x2, (hch.block _ (blk_lt HR6.out.x3) (by omega)).trans HR6.out.x3, (hch.block _ (blk_lt HR6.out.x4) (by omega)).trans HR6.out.x4⟩⟩⟩
              rw [HT.out, HE.out]
              exact HG.out.2.2
            case measure => (simp [intOf]; try omega)
        · have h2 : j < n' := by have := HMN.out; omega
          obtain ⟨p', rfl, hc2⟩ := (HR'.out.below HST.out.bel).at_ j (by omega) (by omega)
          rw [Int.toNat_natCast] at hc2
          obtain ⟨z, hz⟩ : ∃ z, z = rd ks' (j : Int) := ⟨_, rfl⟩
          rw [← hz] at hc2
          have HAz := Aside0.mk (show atP ks' j = z by rw [hz]; exact atP_lt (by rw [HN'.out]; exact h2))
          have HMz := Aside0.mk (show -1 ≤ z ∧ z ≤ 1099511627776 by rw [hz, rd_nat', List.getD_eq_getElem?_getD, List.getElem?_eq_getElem (by rw [HN'.out]; exact h2)]; exact HKS'.out _ (List.getElem_mem _))
          clear hz
          have HE := Aside0.mk (show max (atP ks j) (atP ks' j) = (if -1 < z then z else -1) by rw [atP_beyond (by rw [HN.out]; omega), HAz.out]; omega)
          go_wp2_with (first
            | (at_builtin; go_must (refine print_append_num (w0 := wr) (w.heap.size + 1 + 1 + 1 + 1) rfl (.tmp 47) (.tmp 49) 29 3 .i64 8 rfl Try.underlying29 infoI64 (by decide) (.slice A0 L c0) (orK ks ks' j) _ rfl rfl (by have h := HST.out.row; rw [HLJ.out, HLEN.out] at h; rw [HLJ.out, HLEN.out]; exact h) (Below.refl _ _) hbase (by rw [HLEN.out]; omega) ?_; intro v1 w1 ho _ hg _; obtain ⟨A6, L6, c6, rfl, -⟩ := own_slice' ho; have HG := Aside0.mk (HST.out.grow (Nat.le_of_lt (by omega)) ho hg); have HR6 := Aside0.mk (show OrF w w1 c c' _ _ from ⟨HG.out.2.1 _ _ (by omega) HRES.out.x2, HG.out.2.1 _ _ (by omega) HRES.out.x3, HG.out.2.1 _ _ (by omega) HRES.out.x4⟩); obtain ⟨d0, d1, -, e1⟩ := row2 HG.out.1; clear ho hg)))
          go_roundw
          case rel =>
            have hch := chg_set w1 (w.heap.size + 1 + 1 + 1) 1 (.slice A6 L6 c6)
            refine ⟨j + 1, .slice A6 L6 c6, by go_num, by omega, ⟨?_⟩, ⟨⟨(hch.block _ (blk_lt HR6.out.x2) (by omega)).trans HR6.out.x2, (hch.block _ (blk_lt HR6.out.x3) (by omega)).trans HR6.out.x3, (hch.block _ (blk_lt HR6.out.x4) (by omega)).trans HR6.out.x4⟩⟩⟩
            rw [HT.out, HE.out]
            exact HG.out.2.2
          case measure => (simp [intOf]; try omega)
      · obtain rfl : j = m := by omega
        have hlt' : decide ((j : Int) < j) = false := by simp
        go_wp2
        go_meet
        case rel => exact ⟨_, HST, HRES⟩
  case rest =>
    clear HST HRES
    obtain ⟨V, HST, HRES⟩ := hcut
    obtain ⟨A9, c9, rfl, hcap, hints⟩ := IntsS.of_own HST.out.row
    obtain ⟨L, hL⟩ : ∃ L, L = (orK ks ks' m).length := ⟨_, rfl⟩
    rw [← hL] at HST hcap hints
    have HI := Aside0.mk hints
    have HCAP := Aside0.mk hcap
    have HPE := Aside0.mk (show orN (c, ks) (c', ks') = (x, orK ks ks' m) by rw [orK_all, HM.out, HXE.out])
    obtain ⟨d0, d1, -, -⟩ := row2 HST.out.box
    clear hL hints hcap
    go_wp2_with (first
      | (go_at_call 56; go_must (refine (tidy_calls (fun b => w.heap.size + 1 + 1 + 1 + 1 ≤ b) A9 L c9 x (orK ks ks' m) _ HI.out HCAP.out HXX.out).mono ?_; rw [← HPE.out]; obtain ⟨f, hf⟩ : ∃ f, f = shortN (orN (c, ks) (c', ks')) := ⟨_, rfl⟩; rw [← hf]; have HF := Aside0.mk hf; rintro e w2 ⟨A2, n2, c2, rfl, hcap2, hi2, hb⟩; have HI2 := Aside0.mk hi2; have HCAP2 := Aside0.mk hcap2; have HZ2 := Aside0.mk (blk_lt HST.out.box); have HB2 := Aside0.mk (below_then HST.out.bel HST.out.bel.size hb); have HR2 := Aside0.mk (blk_below HRES.out.x4 hb); obtain ⟨f0, f1, g0, g1⟩ := row2 HR2.out; clear hb hi2 hcap2 hf)))
    have hch := chg_set2 w2 (w.heap.size + 1 + 1) (.int .i64 f.1) (.slice A2 n2 c2)
    refine bodyPost_ret (results_c rfl _ _ (w.heap.size + 1 + 1) 62 #[.int .i64 f.1, .slice A2 n2 c2] (0, 0) _ rfl (set2 HR2.out) Try.underlying62 rfl (by kernel_rfl)) rfl ?_
    rw [← HF.out]
    have hz2 := HZ2.out
    exact ⟨A2, n2, c2, rfl, HCAP2.out, (HI2.out.same fun b hb hz => hch.block b hz (by rcases hb with hb | hb <;> omega)).mono fun b hb _ => .inr (by rcases hb with hb | hb <;> omega), Chg.trans_below HB2.out hch (fun _ e => by omega) HB2.out.size⟩
end Go.Proofs.Ytjlhbaohippidaa

/-! RfNR -/
namespace Go.Proofs.Ytjlhbaohippidaa
open Go.RowKit Go.Proofs.YtjlhbaohippidaaW.PrintWords Go.RegionInvYtjlhbaohippidaa Go.RegionEYtjlhbaohippidaa
set_option linter.unusedVariables false

/-- A sum in its box. -/
def NfBoxF (g : Nat) (f : Nf) (w : World) (O : Nat → Prop) : Prop := ∃ A n cap, w.heap[g]? = some (.cells #[.int .i64 f.1, .slice A n cap] 62 (0, 0)) ∧ O g ∧ n ≤ cap ∧ IntsS w (fun k => O k ∧ k ≠ g) A n f.2
theorem stableE_nfboxF {w0 : World} {E : Nat → Nat → Prop} {f : Nf} {g : Nat} : StableE w0 E (fun _ w O => NfBoxF g f w O) := by
  rintro v w w' O ⟨A, n, cap, hb, hO, h1, h2⟩ hz hk
  exact ⟨A, n, cap, (hk g (blk_lt hb) (.inr hO)).trans hb, hO, h1, h2.same fun k hk' hz' => hk k hz' (.inr hk'.1)⟩

def rn1_ops : List Oper := [
  { dst := some 32, op := Go.Op.fieldAddr 24 (Go.Operand.tmp 1) 2, type := 0, pos := "ref.go:137", after := #[], guard := none },
  { dst := some 33, op := Go.Op.load 22 (Go.Operand.tmp 32), type := 22, pos := "ref.go:137", after := #[{ on := 0, ground := Go.Ground.data }], guard := none },
  { dst := some 34, op := Go.Op.indexAddr 22 (Go.Operand.tmp 33) (Go.Operand.const (Go.Value.int Go.IntKind.i64 0)), type := 0, pos := "ref.go:137", after := #[{ on := 1, ground := Go.Ground.data }], guard := none },
  { dst := some 35, op := Go.Op.load 24 (Go.Operand.tmp 34), type := 24, pos := "ref.go:137", after := #[{ on := 2, ground := Go.Ground.data }], guard := none },
  { dst := some 36, op := Go.Op.call { callee := Go.Callee.value (Go.Operand.func 44), args := #[Go.Operand.tmp 35], argTypes := #[24] }, type := 62, pos := "ref.go:137", after := #[{ on := 3, ground := Go.Ground.data }], guard := none },
  { dst := some 37, op := Go.Op.fieldAddr 24 (Go.Operand.tmp 1) 1, type := 0, pos := "ref.go:137", after := #[], guard := none },
  { dst := some 38, op := Go.Op.load 3 (Go.Operand.tmp 37), type := 3, pos := "ref.go:137", after := #[{ on := 5, ground := Go.Ground.data }], guard := none },
  { dst := some 39, op := Go.Op.call { callee := Go.Callee.value (Go.Operand.func 46), args := #[Go.Operand.tmp 36, Go.Operand.tmp 38], argTypes := #[62, 3] }, type := 62, pos := "ref.go:137", after := #[{ on := 4, ground := Go.Ground.data }, { on := 6, ground := Go.Ground.data }, { on := 4, ground := Go.Ground.chain }], guard := none },
  { dst := none, op := Go.Op.store 62 (Go.Operand.tmp 2) (Go.Operand.tmp 39), type := 0, pos := "ref.go:137", after := #[{ on := 7, ground := Go.Ground.data }, { on := 7, ground := Go.Ground.chain }, { on := 0, ground := Go.Ground.phase }, { on := 1, ground := Go.Ground.phase }, { on := 2, ground := Go.Ground.phase }, { on := 3, ground := Go.Ground.phase }, { on := 4, ground := Go.Ground.phase }, { on := 5, ground := Go.Ground.phase }, { on := 6, ground := Go.Ground.phase }, { on := 7, ground := Go.Ground.phase }], guard := none }]
def rn1_F (w0 : World) (b : Nat) (k n : Int) (gb off m c : Nat) (g0 B0 : Value) (xk0 xn0 : Int) (A0 : Option Addr) (m0 c0 : Nat) (f0 : Nf)  : Nat → (Nat → Value) → Value → World → (Nat → Prop) → Prop := fun rix => match rix with
  | 0 => fun _ v _ _ => v = .pointer (some ⟨b, 2, none⟩)
  | 1 => fun _ v _ _ => v = .slice (some ⟨gb, off, none⟩) m c
  | 2 => fun _ v _ _ => v = .pointer (some ⟨gb, off, none⟩)
  | 3 => fun _ v _ _ => v = .agg #[.int .i64 xk0, .int .i64 xn0, .slice A0 m0 c0]
  | 4 => fun τ v w O => NfV (fun _ => False) f0 v w O
  | 5 => fun _ v _ _ => v = .pointer (some ⟨b, 1, none⟩)
  | 6 => fun _ v _ _ => v = .int .i64 n
  | 7 => fun τ v w O => NfV (fun _ => False) (shortN (plusR n f0)) v w O
  | 8 => fun τ v w O => NfBoxF (b + 1) (shortN (plusR n f0)) w O
  | _ => fun _ _ _ _ => True
def rn1_C : Nat → List Nat := fun rix => match rix with
  | 8 => [7]
  | _ => []
theorem rn1_nw1 : nwB rn1_ops.toArray 1 = true := by kernel_rfl
theorem rn1_nw2 : nwB rn1_ops.toArray 2 = true := by kernel_rfl
set_option maxRecDepth 100000 in
set_option maxHeartbeats 8000000 in
theorem rn1_obs (w0 : World) (b : Nat) (k n : Int) (gb off m c : Nat) (g0 B0 : Value) (xk0 xn0 : Int) (A0 : Option Addr) (m0 c0 : Nat) (f0 : Nf)  (hx2 : w0.heap[b]? = some (.cells #[.int .i64 k, .int .i64 n, .slice (some ⟨gb, off, none⟩) m c] 24 (0, 0))) (hx4 : w0.heap[b + 1]? = some (.cells #[g0, B0] 62 (0, 0))) (hgb : gb < b) (hc0 : w0.cell? ⟨gb, off, none⟩ = some (.int .i64 xk0)) (hc1 : w0.cell? ⟨gb, off + 1, none⟩ = some (.int .i64 xn0)) (hc2 : w0.cell? ⟨gb, off + 2, none⟩ = some (.slice A0 m0 c0)) (hof0 : ∀ w, (∀ k, k < b → w.heap[k]? = w0.heap[k]?) → w0.heap.size ≤ w.heap.size → Calls Try.prog 44 #[.agg #[.int .i64 xk0, .int .i64 xn0, .slice A0 m0 c0]] w (NfGot w (fun _ => False) f0)) (hm : 0 < m) (hn0 : 0 ≤ n) (hn1 : n ≤ 1099511627776) (hf0 : NfOk f0) (Q : Exit → Act → World → Prop) (a0 : Act) (hi1 : a0.tmps.getD 1 undef = .pointer (some ⟨b, 0, none⟩)) (hi2 : a0.tmps.getD 2 undef = .pointer (some ⟨b + 1, 0, none⟩)) :
    ObsE Try.prog rn1_ops.toArray Q (est2 8 0 (fun k => k = b + 1) (fun _ => False)) rn1_C (rn1_F w0 b k n gb off m c g0 B0 xk0 xn0 A0 m0 c0 f0 ) a0 w0 rn1_ops.toArray.toList 0 := by
  have nw1 := rn1_nw1
  have nw2 := rn1_nw2
  refine ⟨?_, ?_, ?_, ?_, ?_, ?_, ?_, ?_, ?_, trivial⟩
  · refine ⟨⟨fun τ => stableE_det _, leans_not⟩, ?_⟩
    intro a w O hk
    have e1 : a.eval (.tmp 1) = .pointer (some ⟨b, 0, none⟩) := (hk.init 1 (initialB_of_nw nw1)).trans hi1
    exact obE_run (wanted_none rfl) (by unfold execOp; simp only []; rw [e1]; go_simp) rfl
  · refine ⟨⟨fun τ => stableE_det _, leans_not⟩, ?_⟩
    intro a w O hk
    have e32 : a.eval (.tmp 32) = .pointer (some ⟨b, 2, none⟩) := hk.fact 0 _ 32 rfl rfl rfl rfl
    have x2 := hk.world.still hx2 (fun ⟨_, h⟩ => h.elim (fun h => by have : b = b + 1 := h.2; omega) (fun h => h.2))
    obtain ⟨p0, p1, p2, -, -, -⟩ := row3 x2
    have hfx : ∀ k, k < b → w.heap[k]? = w0.heap[k]? := fun k hkb => hk.fix k (est2_fix (by have := blk_lt hx2; omega) (fun h => by omega) (fun h => h))
    have hcc : ∀ j, w.cell? ⟨gb, j, none⟩ = w0.cell? ⟨gb, j, none⟩ := fun j => cell_same (hfx _ hgb)
    have q0 := (hcc _).trans hc0
    have q1 := (hcc _).trans hc1
    have q2 := (hcc _).trans hc2
    exact obE_run (wanted_none rfl) (by unfold execOp; simp only []; rw [e32]; go_simp) rfl
  · refine ⟨⟨fun τ => stableE_det _, leans_not⟩, ?_⟩
    intro a w O hk
    have e33 : a.eval (.tmp 33) = .slice (some ⟨gb, off, none⟩) m c := hk.fact 1 _ 33 rfl rfl rfl rfl
    have x2 := hk.world.still hx2 (fun ⟨_, h⟩ => h.elim (fun h => by have : b = b + 1 := h.2; omega) (fun h => h.2))
    obtain ⟨p0, p1, p2, -, -, -⟩ := row3 x2
    have hfx : ∀ k, k < b → w.heap[k]? = w0.heap[k]? := fun k hkb => hk.fix k (est2_fix (by have := blk_lt hx2; omega) (fun h => by omega) (fun h => h))
    have hcc : ∀ j, w.cell? ⟨gb, j, none⟩ = w0.cell? ⟨gb, j, none⟩ := fun j => cell_same (hfx _ hgb)
    have q0 := (hcc _).trans hc0
    have q1 := (hcc _).trans hc1
    have q2 := (hcc _).trans hc2
    exact obE_run (wanted_none rfl) (by unfold execOp; simp only []; rw [e33]; go_simp) rfl
  · refine ⟨⟨fun τ => stableE_det _, leans_not⟩, ?_⟩
    intro a w O hk
    have e34 : a.eval (.tmp 34) = .pointer (some ⟨gb, off, none⟩) := hk.fact 2 _ 34 rfl rfl rfl rfl
    have x2 := hk.world.still hx2 (fun ⟨_, h⟩ => h.elim (fun h => by have : b = b + 1 := h.2; omega) (fun h => h.2))
    obtain ⟨p0, p1, p2, -, -, -⟩ := row3 x2
    have hfx : ∀ k, k < b → w.heap[k]? = w0.heap[k]? := fun k hkb => hk.fix k (est2_fix (by have := blk_lt hx2; omega) (fun h => by omega) (fun h => h))
    have hcc : ∀ j, w.cell? ⟨gb, j, none⟩ = w0.cell? ⟨gb, j, none⟩ := fun j => cell_same (hfx _ hgb)
    have q0 := (hcc _).trans hc0
    have q1 := (hcc _).trans hc1
    have q2 := (hcc _).trans hc2
    exact obE_run (wanted_none rfl) (by unfold execOp; simp only []; rw [e34]; go_simp) rfl
  · refine ⟨⟨fun τ => stableE_nf (fun k hk' => hk'.elim), leans_not⟩, ?_⟩
    intro a w O hk
    have e35 : a.eval (.tmp 35) = .agg #[.int .i64 xk0, .int .i64 xn0, .slice A0 m0 c0] := hk.fact 3 _ 35 rfl rfl rfl rfl
    have x2 := hk.world.still hx2 (fun ⟨_, h⟩ => h.elim (fun h => by have : b = b + 1 := h.2; omega) (fun h => h.2))
    obtain ⟨p0, p1, p2, -, -, -⟩ := row3 x2
    have hfx : ∀ k, k < b → w.heap[k]? = w0.heap[k]? := fun k hkb => hk.fix k (est2_fix (by have := blk_lt hx2; omega) (fun h => by omega) (fun h => h))
    have hcc : ∀ j, w.cell? ⟨gb, j, none⟩ = w0.cell? ⟨gb, j, none⟩ := fun j => cell_same (hfx _ hgb)
    have q0 := (hcc _).trans hc0
    have q1 := (hcc _).trans hc1
    have q2 := (hcc _).trans hc2
    refine obE_callNew #[.agg #[.int .i64 xk0, .int .i64 xn0, .slice A0 m0 c0]] rfl rfl rfl rfl (by simp only [List.map_cons, List.map_nil]; rw [e35]) (wanted_none rfl) ((hof0 w hfx hk.world.size).mono ?_)
    intro e w' h
    exact NfV.of_got h
  · refine ⟨⟨fun τ => stableE_det _, leans_not⟩, ?_⟩
    intro a w O hk
    have e1 : a.eval (.tmp 1) = .pointer (some ⟨b, 0, none⟩) := (hk.init 1 (initialB_of_nw nw1)).trans hi1
    exact obE_run (wanted_none rfl) (by unfold execOp; simp only []; rw [e1]; go_simp) rfl
  · refine ⟨⟨fun τ => stableE_det _, leans_not⟩, ?_⟩
    intro a w O hk
    have e37 : a.eval (.tmp 37) = .pointer (some ⟨b, 1, none⟩) := hk.fact 5 _ 37 rfl rfl rfl rfl
    have x2 := hk.world.still hx2 (fun ⟨_, h⟩ => h.elim (fun h => by have : b = b + 1 := h.2; omega) (fun h => h.2))
    obtain ⟨p0, p1, p2, -, -, -⟩ := row3 x2
    have hfx : ∀ k, k < b → w.heap[k]? = w0.heap[k]? := fun k hkb => hk.fix k (est2_fix (by have := blk_lt hx2; omega) (fun h => by omega) (fun h => h))
    have hcc : ∀ j, w.cell? ⟨gb, j, none⟩ = w0.cell? ⟨gb, j, none⟩ := fun j => cell_same (hfx _ hgb)
    have q0 := (hcc _).trans hc0
    have q1 := (hcc _).trans hc1
    have q2 := (hcc _).trans hc2
    exact obE_run (wanted_none rfl) (by unfold execOp; simp only []; rw [e37]; go_simp) rfl
  · refine ⟨⟨fun τ => stableE_nf (fun k hk' => hk'.elim), leans_not⟩, ?_⟩
    intro a w O hk
    have f36 := hk.fact 4 _ 36 rfl rfl rfl rfl
    have g36 := hk.owns 4 rfl rfl
    have e38 : a.eval (.tmp 38) = .int .i64 n := hk.fact 6 _ 38 rfl rfl rfl rfl
    have x2 := hk.world.still hx2 (fun ⟨_, h⟩ => h.elim (fun h => by have : b = b + 1 := h.2; omega) (fun h => h.2))
    obtain ⟨p0, p1, p2, -, -, -⟩ := row3 x2
    have hfx : ∀ k, k < b → w.heap[k]? = w0.heap[k]? := fun k hkb => hk.fix k (est2_fix (by have := blk_lt hx2; omega) (fun h => by omega) (fun h => h))
    have hcc : ∀ j, w.cell? ⟨gb, j, none⟩ = w0.cell? ⟨gb, j, none⟩ := fun j => cell_same (hfx _ hgb)
    have q0 := (hcc _).trans hc0
    have q1 := (hcc _).trans hc1
    have q2 := (hcc _).trans hc2
    obtain ⟨A, n', cap, e36, h1, h2⟩ := f36
    have hln := h2.1.1
    have hok := hf0
    refine obE_callNew #[.agg #[.int .i64 f0.1, .slice A n' cap], .int .i64 n] rfl rfl rfl rfl (by simp only [List.map_cons, List.map_nil]; rw [e38, show a.eval (.tmp 36) = _ from e36]) (wanted_none rfl) ((refPlus_calls A n' cap f0.1 n f0.2 w h2.1 hok.1 hok.2.1 hn0 hn1 hok.2.2.1 (by have := hok.2.2.2; omega)).mono ?_)
    intro e w' h
    exact NfV.of_got h
  · refine ⟨⟨fun τ => stableE_nfboxF, leans_not⟩, ?_⟩
    intro a w O hk
    have e2 : a.eval (.tmp 2) = .pointer (some ⟨b + 1, 0, none⟩) := (hk.init 2 (initialB_of_nw nw2)).trans hi2
    have f39 := hk.fact 7 _ 39 rfl rfl rfl rfl
    have g39 := hk.owns 7 rfl rfl
    have x2 := hk.world.still hx2 (fun ⟨_, h⟩ => h.elim (fun h => by have : b = b + 1 := h.2; omega) (fun h => h.2))
    obtain ⟨p0, p1, p2, -, -, -⟩ := row3 x2
    have hfx : ∀ k, k < b → w.heap[k]? = w0.heap[k]? := fun k hkb => hk.fix k (est2_fix (by have := blk_lt hx2; omega) (fun h => by omega) (fun h => h))
    have hcc : ∀ j, w.cell? ⟨gb, j, none⟩ = w0.cell? ⟨gb, j, none⟩ := fun j => cell_same (hfx _ hgb)
    have q0 := (hcc _).trans hc0
    have q1 := (hcc _).trans hc1
    have q2 := (hcc _).trans hc2
    have x4 := (hk.est 8 _ rfl (.inl rfl) (b + 1) (.inl ⟨rfl, rfl⟩)).trans hx4
    obtain ⟨z0, z1, y0, y1⟩ := row2 x4
    obtain ⟨A, n', cap, e39, h1, h2⟩ := f39
    refine obE_store (w' := (w.setCell ⟨b + 1, 0, none⟩ (.int .i64 (shortN (plusR n f0)).1)).setCell ⟨b + 1, 1, none⟩ (.slice A n' cap)) (fun k => k = b + 1 ∨ O 7 k) (wanted_none rfl) (by unfold execOp; simp only []; rw [e2, show a.eval (.tmp 39) = _ from e39]; go_simp) ((chg_set2 w (b + 1) _ _).mono fun k h => .inr (.inl ⟨rfl, h⟩)) ?_ (fun k h => .inl ?_)
    · exact ⟨A, n', cap, set2 x4, .inl rfl, h1, (h2.same fun k hk' hz => (chg_set2 w (b + 1) _ _).block k hz (fun h => hk'.elim id fun h' => hk.away 8 7 _ rfl (.inl rfl) rfl rfl (b + 1) (.inl ⟨rfl, rfl⟩) (h ▸ h'))).mono fun k hk' _ => hk'.elim False.elim fun h' => ⟨.inr h', fun h => hk.away 8 7 _ rfl (.inl rfl) rfl rfl (b + 1) (.inl ⟨rfl, rfl⟩) (h ▸ h')⟩⟩
    · exact h.elim (fun h => .inr (.inl ⟨rfl, h⟩)) fun h => .inl ⟨7, by simp [rn1_C], h⟩
set_option maxRecDepth 100000 in
set_option maxHeartbeats 8000000 in
theorem rn1_region {Q : Exit → Act → World → Prop} {id : Nat} (w0 : World) (b : Nat) (k n : Int) (gb off m c : Nat) (g0 B0 : Value) (xk0 xn0 : Int) (A0 : Option Addr) (m0 c0 : Nat) (f0 : Nf)  {s0 s3 s4 s5 s6 s7 s8 s9 s10 s11 s12 s13 s14 s15 s16 s17 s18 s19 s20 s21 s22 s23 s24 s25 s26 s27 s28 s29 s30 s31 s32 s33 s34 s35 s36 s37 s38 s39 s40 s41 s42 s43 s44 s45 s46 s47 s48 s49 s50 : Value} (hx2 : w0.heap[b]? = some (.cells #[.int .i64 k, .int .i64 n, .slice (some ⟨gb, off, none⟩) m c] 24 (0, 0))) (hx4 : w0.heap[b + 1]? = some (.cells #[g0, B0] 62 (0, 0))) (hgb : gb < b) (hc0 : w0.cell? ⟨gb, off, none⟩ = some (.int .i64 xk0)) (hc1 : w0.cell? ⟨gb, off + 1, none⟩ = some (.int .i64 xn0)) (hc2 : w0.cell? ⟨gb, off + 2, none⟩ = some (.slice A0 m0 c0)) (hof0 : ∀ w, (∀ k, k < b → w.heap[k]? = w0.heap[k]?) → w0.heap.size ≤ w.heap.size → Calls Try.prog 44 #[.agg #[.int .i64 xk0, .int .i64 xn0, .slice A0 m0 c0]] w (NfGot w (fun _ => False) f0)) (hm : 0 < m) (hn0 : 0 ≤ n) (hn1 : n ≤ 1099511627776) (hf0 : NfOk f0)
    (hend : ∀ (w' : World) (u36 : Value) (u39 : Value) (O4 : Nat → Prop) (v8 : Value) (O8 : Nat → Prop), Chg (fun k => (fun k => k = b + 1) k ∨ (fun _ => False) k) w0 w' → (NfV (fun _ => False) f0 u36 w' O4) → (∀ k, O4 k → k < w'.heap.size ∧ ¬ Fix w0 (est2 8 0 (fun k => k = b + 1) (fun _ => False)) k) → (NfBoxF (b + 1) (shortN (plusR n f0)) w' O8) → (∀ k, O8 k → k < w'.heap.size ∧ ¬ Fix w0 (est2 8 0 (fun k => k = b + 1) (fun _ => False)) k) → Q .normal { tmps := (s0 :: (.pointer (some ⟨b, 0, none⟩) : Value) :: (.pointer (some ⟨b + 1, 0, none⟩) : Value) :: s3 :: s4 :: s5 :: s6 :: s7 :: s8 :: s9 :: s10 :: s11 :: s12 :: s13 :: s14 :: s15 :: s16 :: s17 :: s18 :: s19 :: s20 :: s21 :: s22 :: s23 :: s24 :: s25 :: s26 :: s27 :: s28 :: s29 :: s30 :: s31 :: (.pointer (some ⟨b, 2, none⟩) : Value) :: (.slice (some ⟨gb, off, none⟩) m c : Value) :: (.pointer (some ⟨gb, off, none⟩) : Value) :: (.agg #[.int .i64 xk0, .int .i64 xn0, .slice A0 m0 c0] : Value) :: u36 :: (.pointer (some ⟨b, 1, none⟩) : Value) :: (.int .i64 n : Value) :: u39 :: s40 :: s41 :: s42 :: s43 :: s44 :: s45 :: s46 :: s47 :: s48 :: s49 :: s50 :: ([] : List Value)).toArray, defers := [] } w') :
    (Code.region id rn1_ops.toArray true).wp Try.prog Q { tmps := (s0 :: (.pointer (some ⟨b, 0, none⟩) : Value) :: (.pointer (some ⟨b + 1, 0, none⟩) : Value) :: s3 :: s4 :: s5 :: s6 :: s7 :: s8 :: s9 :: s10 :: s11 :: s12 :: s13 :: s14 :: s15 :: s16 :: s17 :: s18 :: s19 :: s20 :: s21 :: s22 :: s23 :: s24 :: s25 :: s26 :: s27 :: s28 :: s29 :: s30 :: s31 :: s32 :: s33 :: s34 :: s35 :: s36 :: s37 :: s38 :: s39 :: s40 :: s41 :: s42 :: s43 :: s44 :: s45 :: s46 :: s47 :: s48 :: s49 :: s50 :: ([] : List Value)).toArray, defers := [] } w0 := by
  refine wp_region_est (by kernel_rfl) (est2 8 0 (fun k => k = b + 1) (fun _ => False)) rn1_C (rn1_F w0 b k n gb off m c g0 B0 xk0 xn0 A0 m0 c0 f0 ) (est2_dis (fun k h1 h2 => h2)) (est2_range (fun k h => by have := blk_lt hx4; omega) (fun k h => h.elim)) (by rfl) (by kernel_rfl) (rn1_obs w0.drew b k n gb off m c g0 B0 xk0 xn0 A0 m0 c0 f0  hx2 hx4 hgb hc0 hc1 hc2 hof0 hm hn0 hn1 hf0 _ _ rfl rfl) ?_
  intro a w' O hd hs hb hf hf2 ha hsame
  have hx : ∀ (qi : Nat) (qv : Value), nwB rn1_ops.toArray qi = true → (s0 :: (.pointer (some ⟨b, 0, none⟩) : Value) :: (.pointer (some ⟨b + 1, 0, none⟩) : Value) :: s3 :: s4 :: s5 :: s6 :: s7 :: s8 :: s9 :: s10 :: s11 :: s12 :: s13 :: s14 :: s15 :: s16 :: s17 :: s18 :: s19 :: s20 :: s21 :: s22 :: s23 :: s24 :: s25 :: s26 :: s27 :: s28 :: s29 :: s30 :: s31 :: s32 :: s33 :: s34 :: s35 :: s36 :: s37 :: s38 :: s39 :: s40 :: s41 :: s42 :: s43 :: s44 :: s45 :: s46 :: s47 :: s48 :: s49 :: s50 :: ([] : List Value)).toArray.getD qi undef = qv → a.tmps.getD qi undef = qv := fun qi qv h e => (hsame qi (nwB.spec h)).trans e
  have x0 := hx 0 s0 (by kernel_rfl) rfl
  have x1 := hx 1 (.pointer (some ⟨b, 0, none⟩)) (by kernel_rfl) rfl
  have x2 := hx 2 (.pointer (some ⟨b + 1, 0, none⟩)) (by kernel_rfl) rfl
  have x3 := hx 3 s3 (by kernel_rfl) rfl
  have x4 := hx 4 s4 (by kernel_rfl) rfl
  have x5 := hx 5 s5 (by kernel_rfl) rfl
  have x6 := hx 6 s6 (by kernel_rfl) rfl
  have x7 := hx 7 s7 (by kernel_rfl) rfl
  have x8 := hx 8 s8 (by kernel_rfl) rfl
  have x9 := hx 9 s9 (by kernel_rfl) rfl
  have x10 := hx 10 s10 (by kernel_rfl) rfl
  have x11 := hx 11 s11 (by kernel_rfl) rfl
  have x12 := hx 12 s12 (by kernel_rfl) rfl
  have x13 := hx 13 s13 (by kernel_rfl) rfl
  have x14 := hx 14 s14 (by kernel_rfl) rfl
  have x15 := hx 15 s15 (by kernel_rfl) rfl
  have x16 := hx 16 s16 (by kernel_rfl) rfl
  have x17 := hx 17 s17 (by kernel_rfl) rfl
  have x18 := hx 18 s18 (by kernel_rfl) rfl
  have x19 := hx 19 s19 (by kernel_rfl) rfl
  have x20 := hx 20 s20 (by kernel_rfl) rfl
  have x21 := hx 21 s21 (by kernel_rfl) rfl
  have x22 := hx 22 s22 (by kernel_rfl) rfl
  have x23 := hx 23 s23 (by kernel_rfl) rfl
  have x24 := hx 24 s24 (by kernel_rfl) rfl
  have x25 := hx 25 s25 (by kernel_rfl) rfl
  have x26 := hx 26 s26 (by kernel_rfl) rfl
  have x27 := hx 27 s27 (by kernel_rfl) rfl
  have x28 := hx 28 s28 (by kernel_rfl) rfl
  have x29 := hx 29 s29 (by kernel_rfl) rfl
  have x30 := hx 30 s30 (by kernel_rfl) rfl
  have x31 := hx 31 s31 (by kernel_rfl) rfl
  have x32 : a.tmps.getD 32 undef = .pointer (some ⟨b, 2, none⟩) := (hf 0 _ 32 rfl rfl (by decide)).1
  have x33 : a.tmps.getD 33 undef = .slice (some ⟨gb, off, none⟩) m c := (hf 1 _ 33 rfl rfl (by decide)).1
  have x34 : a.tmps.getD 34 undef = .pointer (some ⟨gb, off, none⟩) := (hf 2 _ 34 rfl rfl (by decide)).1
  have x35 : a.tmps.getD 35 undef = .agg #[.int .i64 xk0, .int .i64 xn0, .slice A0 m0 c0] := (hf 3 _ 35 rfl rfl (by decide)).1
  have x37 : a.tmps.getD 37 undef = .pointer (some ⟨b, 1, none⟩) := (hf 5 _ 37 rfl rfl (by decide)).1
  have x38 : a.tmps.getD 38 undef = .int .i64 n := (hf 6 _ 38 rfl rfl (by decide)).1
  have x40 := hx 40 s40 (by kernel_rfl) rfl
  have x41 := hx 41 s41 (by kernel_rfl) rfl
  have x42 := hx 42 s42 (by kernel_rfl) rfl
  have x43 := hx 43 s43 (by kernel_rfl) rfl
  have x44 := hx 44 s44 (by kernel_rfl) rfl
  have x45 := hx 45 s45 (by kernel_rfl) rfl
  have x46 := hx 46 s46 (by kernel_rfl) rfl
  have x47 := hx 47 s47 (by kernel_rfl) rfl
  have x48 := hx 48 s48 (by kernel_rfl) rfl
  have x49 := hx 49 s49 (by kernel_rfl) rfl
  have x50 := hx 50 s50 (by kernel_rfl) rfl
  have hl : a.tmps = (s0 :: (.pointer (some ⟨b, 0, none⟩) : Value) :: (.pointer (some ⟨b + 1, 0, none⟩) : Value) :: s3 :: s4 :: s5 :: s6 :: s7 :: s8 :: s9 :: s10 :: s11 :: s12 :: s13 :: s14 :: s15 :: s16 :: s17 :: s18 :: s19 :: s20 :: s21 :: s22 :: s23 :: s24 :: s25 :: s26 :: s27 :: s28 :: s29 :: s30 :: s31 :: (.pointer (some ⟨b, 2, none⟩) : Value) :: (.slice (some ⟨gb, off, none⟩) m c : Value) :: (.pointer (some ⟨gb, off, none⟩) : Value) :: (.agg #[.int .i64 xk0, .int .i64 xn0, .slice A0 m0 c0] : Value) :: (a.tmps.getD 36 undef : Value) :: (.pointer (some ⟨b, 1, none⟩) : Value) :: (.int .i64 n : Value) :: (a.tmps.getD 39 undef : Value) :: s40 :: s41 :: s42 :: s43 :: s44 :: s45 :: s46 :: s47 :: s48 :: s49 :: s50 :: ([] : List Value)).toArray := by
    have h := lit a.tmps 51 hs
    have e : ((List.range 51).map (fun i => a.tmps.getD i undef)).toArray = ((a.tmps.getD 0 undef : Value) :: (a.tmps.getD 1 undef : Value) :: (a.tmps.getD 2 undef : Value) :: (a.tmps.getD 3 undef : Value) :: (a.tmps.getD 4 undef : Value) :: (a.tmps.getD 5 undef : Value) :: (a.tmps.getD 6 undef : Value) :: (a.tmps.getD 7 undef : Value) :: (a.tmps.getD 8 undef : Value) :: (a.tmps.getD 9 undef : Value) :: (a.tmps.getD 10 undef : Value) :: (a.tmps.getD 11 undef : Value) :: (a.tmps.getD 12 undef : Value) :: (a.tmps.getD 13 undef : Value) :: (a.tmps.getD 14 undef : Value) :: (a.tmps.getD 15 undef : Value) :: (a.tmps.getD 16 undef : Value) :: (a.tmps.getD 17 undef : Value) :: (a.tmps.getD 18 undef : Value) :: (a.tmps.getD 19 undef : Value) :: (a.tmps.getD 20 undef : Value) :: (a.tmps.getD 21 undef : Value) :: (a.tmps.getD 22 undef : Value) :: (a.tmps.getD 23 undef : Value) :: (a.tmps.getD 24 undef : Value) :: (a.tmps.getD 25 undef : Value) :: (a.tmps.getD 26 undef : Value) :: (a.tmps.getD 27 undef : Value) :: (a.tmps.getD 28 undef : Value) :: (a.tmps.getD 29 undef : Value) :: (a.tmps.getD 30 undef : Value) :: (a.tmps.getD 31 undef : Value) :: (a.tmps.getD 32 undef : Value) :: (a.tmps.getD 33 undef : Value) :: (a.tmps.getD 34 undef : Value) :: (a.tmps.getD 35 undef : Value) :: (a.tmps.getD 36 undef : Value) :: (a.tmps.getD 37 undef : Value) :: (a.tmps.getD 38 undef : Value) :: (a.tmps.getD 39 undef : Value) :: (a.tmps.getD 40 undef : Value) :: (a.tmps.getD 41 undef : Value) :: (a.tmps.getD 42 undef : Value) :: (a.tmps.getD 43 undef : Value) :: (a.tmps.getD 44 undef : Value) :: (a.tmps.getD 45 undef : Value) :: (a.tmps.getD 46 undef : Value) :: (a.tmps.getD 47 undef : Value) :: (a.tmps.getD 48 undef : Value) :: (a.tmps.getD 49 undef : Value) :: (a.tmps.getD 50 undef : Value) :: ([] : List Value)).toArray := rfl
    rw [e, x0, x1, x2, x3, x4, x5, x6, x7, x8, x9, x10, x11, x12, x13, x14, x15, x16, x17, x18, x19, x20, x21, x22, x23, x24, x25, x26, x27, x28, x29, x30, x31, x32, x33, x34, x35, x37, x38, x40, x41, x42, x43, x44, x45, x46, x47, x48, x49, x50] at h
    exact h
  obtain ⟨tmps, defers⟩ := a
  obtain rfl : defers = [] := hd
  have hl' : tmps = _ := hl
  rw [hl']
  obtain ⟨⟨v8, hv8⟩, ho8⟩ := hf2 8 _ rfl rfl (by decide)
  have hb' := est2_chg hb
  exact hend w' _ _ (O 4) v8 (O 8) ⟨hb'.os, hb'.tape, hb'.output, hb'.size, hb'.block⟩ (hf 4 _ 36 rfl rfl (by decide)).1 (hf 4 _ 36 rfl rfl (by decide)).2 hv8 ho8

def rn2_ops : List Oper := [
  { dst := some 40, op := Go.Op.fieldAddr 24 (Go.Operand.tmp 1) 2, type := 0, pos := "ref.go:139", after := #[], guard := none },
  { dst := some 41, op := Go.Op.load 22 (Go.Operand.tmp 40), type := 22, pos := "ref.go:139", after := #[{ on := 0, ground := Go.Ground.data }], guard := none },
  { dst := some 42, op := Go.Op.indexAddr 22 (Go.Operand.tmp 41) (Go.Operand.const (Go.Value.int Go.IntKind.i64 0)), type := 0, pos := "ref.go:139", after := #[{ on := 1, ground := Go.Ground.data }], guard := none },
  { dst := some 43, op := Go.Op.load 24 (Go.Operand.tmp 42), type := 24, pos := "ref.go:139", after := #[{ on := 2, ground := Go.Ground.data }], guard := none },
  { dst := some 44, op := Go.Op.call { callee := Go.Callee.value (Go.Operand.func 44), args := #[Go.Operand.tmp 43], argTypes := #[24] }, type := 62, pos := "ref.go:139", after := #[{ on := 3, ground := Go.Ground.data }], guard := none },
  { dst := some 45, op := Go.Op.fieldAddr 24 (Go.Operand.tmp 1) 2, type := 0, pos := "ref.go:139", after := #[], guard := none },
  { dst := some 46, op := Go.Op.load 22 (Go.Operand.tmp 45), type := 22, pos := "ref.go:139", after := #[{ on := 5, ground := Go.Ground.data }], guard := none },
  { dst := some 47, op := Go.Op.indexAddr 22 (Go.Operand.tmp 46) (Go.Operand.const (Go.Value.int Go.IntKind.i64 1)), type := 0, pos := "ref.go:139", after := #[{ on := 6, ground := Go.Ground.data }], guard := none },
  { dst := some 48, op := Go.Op.load 24 (Go.Operand.tmp 47), type := 24, pos := "ref.go:139", after := #[{ on := 7, ground := Go.Ground.data }], guard := none },
  { dst := some 49, op := Go.Op.call { callee := Go.Callee.value (Go.Operand.func 44), args := #[Go.Operand.tmp 48], argTypes := #[24] }, type := 62, pos := "ref.go:139", after := #[{ on := 8, ground := Go.Ground.data }, { on := 4, ground := Go.Ground.chain }], guard := none },
  { dst := some 50, op := Go.Op.call { callee := Go.Callee.value (Go.Operand.func 45), args := #[Go.Operand.tmp 44, Go.Operand.tmp 49], argTypes := #[62, 62] }, type := 62, pos := "ref.go:139", after := #[{ on := 4, ground := Go.Ground.data }, { on := 9, ground := Go.Ground.data }, { on := 9, ground := Go.Ground.chain }], guard := none },
  { dst := none, op := Go.Op.store 62 (Go.Operand.tmp 2) (Go.Operand.tmp 50), type := 0, pos := "ref.go:139", after := #[{ on := 10, ground := Go.Ground.data }, { on := 10, ground := Go.Ground.chain }, { on := 0, ground := Go.Ground.phase }, { on := 1, ground := Go.Ground.phase }, { on := 2, ground := Go.Ground.phase }, { on := 3, ground := Go.Ground.phase }, { on := 4, ground := Go.Ground.phase }, { on := 5, ground := Go.Ground.phase }, { on := 6, ground := Go.Ground.phase }, { on := 7, ground := Go.Ground.phase }, { on := 8, ground := Go.Ground.phase }, { on := 9, ground := Go.Ground.phase }, { on := 10, ground := Go.Ground.phase }], guard := none }]
def rn2_F (w0 : World) (b : Nat) (k n : Int) (gb off c : Nat) (g0 B0 : Value) (xk0 xn0 : Int) (A0 : Option Addr) (m0 c0 : Nat) (f0 : Nf) (xk1 xn1 : Int) (A1 : Option Addr) (m1 c1 : Nat) (f1 : Nf)  : Nat → (Nat → Value) → Value → World → (Nat → Prop) → Prop := fun rix => match rix with
  | 0 => fun _ v _ _ => v = .pointer (some ⟨b, 2, none⟩)
  | 1 => fun _ v _ _ => v = .slice (some ⟨gb, off, none⟩) 2 c
  | 2 => fun _ v _ _ => v = .pointer (some ⟨gb, off, none⟩)
  | 3 => fun _ v _ _ => v = .agg #[.int .i64 xk0, .int .i64 xn0, .slice A0 m0 c0]
  | 4 => fun τ v w O => NfV (fun _ => False) f0 v w O
  | 5 => fun _ v _ _ => v = .pointer (some ⟨b, 2, none⟩)
  | 6 => fun _ v _ _ => v = .slice (some ⟨gb, off, none⟩) 2 c
  | 7 => fun _ v _ _ => v = .pointer (some ⟨gb, off + 3, none⟩)
  | 8 => fun _ v _ _ => v = .agg #[.int .i64 xk1, .int .i64 xn1, .slice A1 m1 c1]
  | 9 => fun τ v w O => NfV (fun _ => False) f1 v w O
  | 10 => fun τ v w O => NfV (fun _ => False) (shortN (orN f0 f1)) v w O
  | 11 => fun τ v w O => NfBoxF (b + 1) (shortN (orN f0 f1)) w O
  | _ => fun _ _ _ _ => True
def rn2_C : Nat → List Nat := fun rix => match rix with
  | 11 => [10]
  | _ => []
theorem rn2_nw1 : nwB rn2_ops.toArray 1 = true := by kernel_rfl
theorem rn2_nw2 : nwB rn2_ops.toArray 2 = true := by kernel_rfl
set_option maxRecDepth 100000 in
set_option maxHeartbeats 8000000 in
theorem rn2_obs (w0 : World) (b : Nat) (k n : Int) (gb off c : Nat) (g0 B0 : Value) (xk0 xn0 : Int) (A0 : Option Addr) (m0 c0 : Nat) (f0 : Nf) (xk1 xn1 : Int) (A1 : Option Addr) (m1 c1 : Nat) (f1 : Nf)  (hx2 : w0.heap[b]? = some (.cells #[.int .i64 k, .int .i64 n, .slice (some ⟨gb, off, none⟩) 2 c] 24 (0, 0))) (hx4 : w0.heap[b + 1]? = some (.cells #[g0, B0] 62 (0, 0))) (hgb : gb < b) (hc0 : w0.cell? ⟨gb, off, none⟩ = some (.int .i64 xk0)) (hc1 : w0.cell? ⟨gb, off + 1, none⟩ = some (.int .i64 xn0)) (hc2 : w0.cell? ⟨gb, off + 2, none⟩ = some (.slice A0 m0 c0)) (hc3 : w0.cell? ⟨gb, off + 3, none⟩ = some (.int .i64 xk1)) (hc4 : w0.cell? ⟨gb, off + 4, none⟩ = some (.int .i64 xn1)) (hc5 : w0.cell? ⟨gb, off + 5, none⟩ = some (.slice A1 m1 c1)) (hof0 : ∀ w, (∀ k, k < b → w.heap[k]? = w0.heap[k]?) → w0.heap.size ≤ w.heap.size → Calls Try.prog 44 #[.agg #[.int .i64 xk0, .int .i64 xn0, .slice A0 m0 c0]] w (NfGot w (fun _ => False) f0)) (hof1 : ∀ w, (∀ k, k < b → w.heap[k]? = w0.heap[k]?) → w0.heap.size ≤ w.heap.size → Calls Try.prog 44 #[.agg #[.int .i64 xk1, .int .i64 xn1, .slice A1 m1 c1]] w (NfGot w (fun _ => False) f1)) (hf0 : NfOk f0) (hf1 : NfOk f1) (Q : Exit → Act → World → Prop) (a0 : Act) (hi1 : a0.tmps.getD 1 undef = .pointer (some ⟨b, 0, none⟩)) (hi2 : a0.tmps.getD 2 undef = .pointer (some ⟨b + 1, 0, none⟩)) :
    ObsE Try.prog rn2_ops.toArray Q (est2 11 0 (fun k => k = b + 1) (fun _ => False)) rn2_C (rn2_F w0 b k n gb off c g0 B0 xk0 xn0 A0 m0 c0 f0 xk1 xn1 A1 m1 c1 f1 ) a0 w0 rn2_ops.toArray.toList 0 := by
  have nw1 := rn2_nw1
  have nw2 := rn2_nw2
  refine ⟨?_, ?_, ?_, ?_, ?_, ?_, ?_, ?_, ?_, ?_, ?_, ?_, trivial⟩
  · refine ⟨⟨fun τ => stableE_det _, leans_not⟩, ?_⟩
    intro a w O hk
    have e1 : a.eval (.tmp 1) = .pointer (some ⟨b, 0, none⟩) := (hk.init 1 (initialB_of_nw nw1)).trans hi1
    exact obE_run (wanted_none rfl) (by unfold execOp; simp only []; rw [e1]; go_simp) rfl
  · refine ⟨⟨fun τ => stableE_det _, leans_not⟩, ?_⟩
    intro a w O hk
    have e40 : a.eval (.tmp 40) = .pointer (some ⟨b, 2, none⟩) := hk.fact 0 _ 40 rfl rfl rfl rfl
    have x2 := hk.world.still hx2 (fun ⟨_, h⟩ => h.elim (fun h => by have : b = b + 1 := h.2; omega) (fun h => h.2))
    obtain ⟨p0, p1, p2, -, -, -⟩ := row3 x2
    have hfx : ∀ k, k < b → w.heap[k]? = w0.heap[k]? := fun k hkb => hk.fix k (est2_fix (by have := blk_lt hx2; omega) (fun h => by omega) (fun h => h))
    have hcc : ∀ j, w.cell? ⟨gb, j, none⟩ = w0.cell? ⟨gb, j, none⟩ := fun j => cell_same (hfx _ hgb)
    have q0 := (hcc _).trans hc0
    have q1 := (hcc _).trans hc1
    have q2 := (hcc _).trans hc2
    have q3 := (hcc _).trans hc3
    have q4 := (hcc _).trans hc4
    have q5 := (hcc _).trans hc5
    exact obE_run (wanted_none rfl) (by unfold execOp; simp only []; rw [e40]; go_simp) rfl
  · refine ⟨⟨fun τ => stableE_det _, leans_not⟩, ?_⟩
    intro a w O hk
    have e41 : a.eval (.tmp 41) = .slice (some ⟨gb, off, none⟩) 2 c := hk.fact 1 _ 41 rfl rfl rfl rfl
    have x2 := hk.world.still hx2 (fun ⟨_, h⟩ => h.elim (fun h => by have : b = b + 1 := h.2; omega) (fun h => h.2))
    obtain ⟨p0, p1, p2, -, -, -⟩ := row3 x2
    have hfx : ∀ k, k < b → w.heap[k]? = w0.heap[k]? := fun k hkb => hk.fix k (est2_fix (by have := blk_lt hx2; omega) (fun h => by omega) (fun h => h))
    have hcc : ∀ j, w.cell? ⟨gb, j, none⟩ = w0.cell? ⟨gb, j, none⟩ := fun j => cell_same (hfx _ hgb)
    have q0 := (hcc _).trans hc0
    have q1 := (hcc _).trans hc1
    have q2 := (hcc _).trans hc2
    have q3 := (hcc _).trans hc3
    have q4 := (hcc _).trans hc4
    have q5 := (hcc _).trans hc5
    exact obE_run (wanted_none rfl) (by unfold execOp; simp only []; rw [e41]; go_simp) rfl
  · refine ⟨⟨fun τ => stableE_det _, leans_not⟩, ?_⟩
    intro a w O hk
    have e42 : a.eval (.tmp 42) = .pointer (some ⟨gb, off, none⟩) := hk.fact 2 _ 42 rfl rfl rfl rfl
    have x2 := hk.world.still hx2 (fun ⟨_, h⟩ => h.elim (fun h => by have : b = b + 1 := h.2; omega) (fun h => h.2))
    obtain ⟨p0, p1, p2, -, -, -⟩ := row3 x2
    have hfx : ∀ k, k < b → w.heap[k]? = w0.heap[k]? := fun k hkb => hk.fix k (est2_fix (by have := blk_lt hx2; omega) (fun h => by omega) (fun h => h))
    have hcc : ∀ j, w.cell? ⟨gb, j, none⟩ = w0.cell? ⟨gb, j, none⟩ := fun j => cell_same (hfx _ hgb)
    have q0 := (hcc _).trans hc0
    have q1 := (hcc _).trans hc1
    have q2 := (hcc _).trans hc2
    have q3 := (hcc _).trans hc3
    have q4 := (hcc _).trans hc4
    have q5 := (hcc _).trans hc5
    exact obE_run (wanted_none rfl) (by unfold execOp; simp only []; rw [e42]; go_simp) rfl
  · refine ⟨⟨fun τ => stableE_nf (fun k hk' => hk'.elim), leans_not⟩, ?_⟩
    intro a w O hk
    have e43 : a.eval (.tmp 43) = .agg #[.int .i64 xk0, .int .i64 xn0, .slice A0 m0 c0] := hk.fact 3 _ 43 rfl rfl rfl rfl
    have x2 := hk.world.still hx2 (fun ⟨_, h⟩ => h.elim (fun h => by have : b = b + 1 := h.2; omega) (fun h => h.2))
    obtain ⟨p0, p1, p2, -, -, -⟩ := row3 x2
    have hfx : ∀ k, k < b → w.heap[k]? = w0.heap[k]? := fun k hkb => hk.fix k (est2_fix (by have := blk_lt hx2; omega) (fun h => by omega) (fun h => h))
    have hcc : ∀ j, w.cell? ⟨gb, j, none⟩ = w0.cell? ⟨gb, j, none⟩ := fun j => cell_same (hfx _ hgb)
    have q0 := (hcc _).trans hc0
    have q1 := (hcc _).trans hc1
    have q2 := (hcc _).trans hc2
    have q3 := (hcc _).trans hc3
    have q4 := (hcc _).trans hc4
    have q5 := (hcc _).trans hc5
    refine obE_callNew #[.agg #[.int .i64 xk0, .int .i64 xn0, .slice A0 m0 c0]] rfl rfl rfl rfl (by simp only [List.map_cons, List.map_nil]; rw [e43]) (wanted_none rfl) ((hof0 w hfx hk.world.size).mono ?_)
    intro e w' h
    exact NfV.of_got h
  · refine ⟨⟨fun τ => stableE_det _, leans_not⟩, ?_⟩
    intro a w O hk
    have e1 : a.eval (.tmp 1) = .pointer (some ⟨b, 0, none⟩) := (hk.init 1 (initialB_of_nw nw1)).trans hi1
    exact obE_run (wanted_none rfl) (by unfold execOp; simp only []; rw [e1]; go_simp) rfl
  · refine ⟨⟨fun τ => stableE_det _, leans_not⟩, ?_⟩
    intro a w O hk
    have e45 : a.eval (.tmp 45) = .pointer (some ⟨b, 2, none⟩) := hk.fact 5 _ 45 rfl rfl rfl rfl
    have x2 := hk.world.still hx2 (fun ⟨_, h⟩ => h.elim (fun h => by have : b = b + 1 := h.2; omega) (fun h => h.2))
    obtain ⟨p0, p1, p2, -, -, -⟩ := row3 x2
    have hfx : ∀ k, k < b → w.heap[k]? = w0.heap[k]? := fun k hkb => hk.fix k (est2_fix (by have := blk_lt hx2; omega) (fun h => by omega) (fun h => h))
    have hcc : ∀ j, w.cell? ⟨gb, j, none⟩ = w0.cell? ⟨gb, j, none⟩ := fun j => cell_same (hfx _ hgb)
    have q0 := (hcc _).trans hc0
    have q1 := (hcc _).trans hc1
    have q2 := (hcc _).trans hc2
    have q3 := (hcc _).trans hc3
    have q4 := (hcc _).trans hc4
    have q5 := (hcc _).trans hc5
    exact obE_run (wanted_none rfl) (by unfold execOp; simp only []; rw [e45]; go_simp) rfl
  · refine ⟨⟨fun τ => stableE_det _, leans_not⟩, ?_⟩
    intro a w O hk
    have e46 : a.eval (.tmp 46) = .slice (some ⟨gb, off, none⟩) 2 c := hk.fact 6 _ 46 rfl rfl rfl rfl
    have x2 := hk.world.still hx2 (fun ⟨_, h⟩ => h.elim (fun h => by have : b = b + 1 := h.2; omega) (fun h => h.2))
    obtain ⟨p0, p1, p2, -, -, -⟩ := row3 x2
    have hfx : ∀ k, k < b → w.heap[k]? = w0.heap[k]? := fun k hkb => hk.fix k (est2_fix (by have := blk_lt hx2; omega) (fun h => by omega) (fun h => h))
    have hcc : ∀ j, w.cell? ⟨gb, j, none⟩ = w0.cell? ⟨gb, j, none⟩ := fun j => cell_same (hfx _ hgb)
    have q0 := (hcc _).trans hc0
    have q1 := (hcc _).trans hc1
    have q2 := (hcc _).trans hc2
    have q3 := (hcc _).trans hc3
    have q4 := (hcc _).trans hc4
    have q5 := (hcc _).trans hc5
    exact obE_run (wanted_none rfl) (by unfold execOp; simp only []; rw [e46]; go_simp) rfl
  · refine ⟨⟨fun τ => stableE_det _, leans_not⟩, ?_⟩
    intro a w O hk
    have e47 : a.eval (.tmp 47) = .pointer (some ⟨gb, off + 3, none⟩) := hk.fact 7 _ 47 rfl rfl rfl rfl
    have x2 := hk.world.still hx2 (fun ⟨_, h⟩ => h.elim (fun h => by have : b = b + 1 := h.2; omega) (fun h => h.2))
    obtain ⟨p0, p1, p2, -, -, -⟩ := row3 x2
    have hfx : ∀ k, k < b → w.heap[k]? = w0.heap[k]? := fun k hkb => hk.fix k (est2_fix (by have := blk_lt hx2; omega) (fun h => by omega) (fun h => h))
    have hcc : ∀ j, w.cell? ⟨gb, j, none⟩ = w0.cell? ⟨gb, j, none⟩ := fun j => cell_same (hfx _ hgb)
    have q0 := (hcc _).trans hc0
    have q1 := (hcc _).trans hc1
    have q2 := (hcc _).trans hc2
    have q3 := (hcc _).trans hc3
    have q4 := (hcc _).trans hc4
    have q5 := (hcc _).trans hc5
    exact obE_run (wanted_none rfl) (by unfold execOp; simp only []; rw [e47]; go_simp) rfl
  · refine ⟨⟨fun τ => stableE_nf (fun k hk' => hk'.elim), leans_not⟩, ?_⟩
    intro a w O hk
    have e48 : a.eval (.tmp 48) = .agg #[.int .i64 xk1, .int .i64 xn1, .slice A1 m1 c1] := hk.fact 8 _ 48 rfl rfl rfl rfl
    have x2 := hk.world.still hx2 (fun ⟨_, h⟩ => h.elim (fun h => by have : b = b + 1 := h.2; omega) (fun h => h.2))
    obtain ⟨p0, p1, p2, -, -, -⟩ := row3 x2
    have hfx : ∀ k, k < b → w.heap[k]? = w0.heap[k]? := fun k hkb => hk.fix k (est2_fix (by have := blk_lt hx2; omega) (fun h => by omega) (fun h => h))
    have hcc : ∀ j, w.cell? ⟨gb, j, none⟩ = w0.cell? ⟨gb, j, none⟩ := fun j => cell_same (hfx _ hgb)
    have q0 := (hcc _).trans hc0
    have q1 := (hcc _).trans hc1
    have q2 := (hcc _).trans hc2
    have q3 := (hcc _).trans hc3
    have q4 := (hcc _).trans hc4
    have q5 := (hcc _).trans hc5
    refine obE_callNew #[.agg #[.int .i64 xk1, .int .i64 xn1, .slice A1 m1 c1]] rfl rfl rfl rfl (by simp only [List.map_cons, List.map_nil]; rw [e48]) (wanted_none rfl) ((hof1 w hfx hk.world.size).mono ?_)
    intro e w' h
    exact NfV.of_got h
  · refine ⟨⟨fun τ => stableE_nf (fun k hk' => hk'.elim), leans_not⟩, ?_⟩
    intro a w O hk
    have f44 := hk.fact 4 _ 44 rfl rfl rfl rfl
    have g44 := hk.owns 4 rfl rfl
    have f49 := hk.fact 9 _ 49 rfl rfl rfl rfl
    have g49 := hk.owns 9 rfl rfl
    have x2 := hk.world.still hx2 (fun ⟨_, h⟩ => h.elim (fun h => by have : b = b + 1 := h.2; omega) (fun h => h.2))
    obtain ⟨p0, p1, p2, -, -, -⟩ := row3 x2
    have hfx : ∀ k, k < b → w.heap[k]? = w0.heap[k]? := fun k hkb => hk.fix k (est2_fix (by have := blk_lt hx2; omega) (fun h => by omega) (fun h => h))
    have hcc : ∀ j, w.cell? ⟨gb, j, none⟩ = w0.cell? ⟨gb, j, none⟩ := fun j => cell_same (hfx _ hgb)
    have q0 := (hcc _).trans hc0
    have q1 := (hcc _).trans hc1
    have q2 := (hcc _).trans hc2
    have q3 := (hcc _).trans hc3
    have q4 := (hcc _).trans hc4
    have q5 := (hcc _).trans hc5
    obtain ⟨A, n', cap, e44, h1, h2⟩ := f44
    obtain ⟨A', n'', cap', e49, h1', h2'⟩ := f49
    have hln := h2.1.1
    have hln' := h2'.1.1
    have hok := hf0
    have hok' := hf1
    refine obE_callNew #[.agg #[.int .i64 f0.1, .slice A n' cap], .agg #[.int .i64 f1.1, .slice A' n'' cap']] rfl rfl rfl rfl (by simp only [List.map_cons, List.map_nil]; rw [show a.eval (.tmp 44) = _ from e44, show a.eval (.tmp 49) = _ from e49]) (wanted_none rfl) ((refBoth_calls A A' n' cap n'' cap' f0.1 f1.1 f0.2 f1.2 w h2.1 h2'.1 hok.1 hok.2.2.1 hok'.2.2.1 (by have := hok.2.2.2; omega) (by have := hok'.2.2.2; omega)).mono ?_)
    intro e w' h
    exact NfV.of_got h
  · refine ⟨⟨fun τ => stableE_nfboxF, leans_not⟩, ?_⟩
    intro a w O hk
    have e2 : a.eval (.tmp 2) = .pointer (some ⟨b + 1, 0, none⟩) := (hk.init 2 (initialB_of_nw nw2)).trans hi2
    have f50 := hk.fact 10 _ 50 rfl rfl rfl rfl
    have g50 := hk.owns 10 rfl rfl
    have x2 := hk.world.still hx2 (fun ⟨_, h⟩ => h.elim (fun h => by have : b = b + 1 := h.2; omega) (fun h => h.2))
    obtain ⟨p0, p1, p2, -, -, -⟩ := row3 x2
    have hfx : ∀ k, k < b → w.heap[k]? = w0.heap[k]? := fun k hkb => hk.fix k (est2_fix (by have := blk_lt hx2; omega) (fun h => by omega) (fun h => h))
    have hcc : ∀ j, w.cell? ⟨gb, j, none⟩ = w0.cell? ⟨gb, j, none⟩ := fun j => cell_same (hfx _ hgb)
    have q0 := (hcc _).trans hc0
    have q1 := (hcc _).trans hc1
    have q2 := (hcc _).trans hc2
    have q3 := (hcc _).trans hc3
    have q4 := (hcc _).trans hc4
    have q5 := (hcc _).trans hc5
    have x4 := (hk.est 11 _ rfl (.inl rfl) (b + 1) (.inl ⟨rfl, rfl⟩)).trans hx4
    obtain ⟨z0, z1, y0, y1⟩ := row2 x4
    obtain ⟨A, n', cap, e50, h1, h2⟩ := f50
    refine obE_store (w' := (w.setCell ⟨b + 1, 0, none⟩ (.int .i64 (shortN (orN f0 f1)).1)).setCell ⟨b + 1, 1, none⟩ (.slice A n' cap)) (fun k => k = b + 1 ∨ O 10 k) (wanted_none rfl) (by unfold execOp; simp only []; rw [e2, show a.eval (.tmp 50) = _ from e50]; go_simp) ((chg_set2 w (b + 1) _ _).mono fun k h => .inr (.inl ⟨rfl, h⟩)) ?_ (fun k h => .inl ?_)
    · exact ⟨A, n', cap, set2 x4, .inl rfl, h1, (h2.same fun k hk' hz => (chg_set2 w (b + 1) _ _).block k hz (fun h => hk'.elim id fun h' => hk.away 11 10 _ rfl (.inl rfl) rfl rfl (b + 1) (.inl ⟨rfl, rfl⟩) (h ▸ h'))).mono fun k hk' _ => hk'.elim False.elim fun h' => ⟨.inr h', fun h => hk.away 11 10 _ rfl (.inl rfl) rfl rfl (b + 1) (.inl ⟨rfl, rfl⟩) (h ▸ h')⟩⟩
    · exact h.elim (fun h => .inr (.inl ⟨rfl, h⟩)) fun h => .inl ⟨10, by simp [rn2_C], h⟩
set_option maxRecDepth 100000 in
set_option maxHeartbeats 8000000 in
theorem rn2_region {Q : Exit → Act → World → Prop} {id : Nat} (w0 : World) (b : Nat) (k n : Int) (gb off c : Nat) (g0 B0 : Value) (xk0 xn0 : Int) (A0 : Option Addr) (m0 c0 : Nat) (f0 : Nf) (xk1 xn1 : Int) (A1 : Option Addr) (m1 c1 : Nat) (f1 : Nf)  {s0 s3 s4 s5 s6 s7 s8 s9 s10 s11 s12 s13 s14 s15 s16 s17 s18 s19 s20 s21 s22 s23 s24 s25 s26 s27 s28 s29 s30 s31 s32 s33 s34 s35 s36 s37 s38 s39 s40 s41 s42 s43 s44 s45 s46 s47 s48 s49 s50 : Value} (hx2 : w0.heap[b]? = some (.cells #[.int .i64 k, .int .i64 n, .slice (some ⟨gb, off, none⟩) 2 c] 24 (0, 0))) (hx4 : w0.heap[b + 1]? = some (.cells #[g0, B0] 62 (0, 0))) (hgb : gb < b) (hc0 : w0.cell? ⟨gb, off, none⟩ = some (.int .i64 xk0)) (hc1 : w0.cell? ⟨gb, off + 1, none⟩ = some (.int .i64 xn0)) (hc2 : w0.cell? ⟨gb, off + 2, none⟩ = some (.slice A0 m0 c0)) (hc3 : w0.cell? ⟨gb, off + 3, none⟩ = some (.int .i64 xk1)) (hc4 : w0.cell? ⟨gb, off + 4, none⟩ = some (.int .i64 xn1)) (hc5 : w0.cell? ⟨gb, off + 5, none⟩ = some (.slice A1 m1 c1)) (hof0 : ∀ w, (∀ k, k < b → w.heap[k]? = w0.heap[k]?) → w0.heap.size ≤ w.heap.size → Calls Try.prog 44 #[.agg #[.int .i64 xk0, .int .i64 xn0, .slice A0 m0 c0]] w (NfGot w (fun _ => False) f0)) (hof1 : ∀ w, (∀ k, k < b → w.heap[k]? = w0.heap[k]?) → w0.heap.size ≤ w.heap.size → Calls Try.prog 44 #[.agg #[.int .i64 xk1, .int .i64 xn1, .slice A1 m1 c1]] w (NfGot w (fun _ => False) f1)) (hf0 : NfOk f0) (hf1 : NfOk f1)
    (hend : ∀ (w' : World) (u44 : Value) (u49 : Value) (u50 : Value) (O4 : Nat → Prop) (O9 : Nat → Prop) (v11 : Value) (O11 : Nat → Prop), Chg (fun k => (fun k => k = b + 1) k ∨ (fun _ => False) k) w0 w' → (NfV (fun _ => False) f0 u44 w' O4) → (∀ k, O4 k → k < w'.heap.size ∧ ¬ Fix w0 (est2 11 0 (fun k => k = b + 1) (fun _ => False)) k) → (NfV (fun _ => False) f1 u49 w' O9) → (∀ k, O9 k → k < w'.heap.size ∧ ¬ Fix w0 (est2 11 0 (fun k => k = b + 1) (fun _ => False)) k) → (NfBoxF (b + 1) (shortN (orN f0 f1)) w' O11) → (∀ k, O11 k → k < w'.heap.size ∧ ¬ Fix w0 (est2 11 0 (fun k => k = b + 1) (fun _ => False)) k) → Q .normal { tmps := (s0 :: (.pointer (some ⟨b, 0, none⟩) : Value) :: (.pointer (some ⟨b + 1, 0, none⟩) : Value) :: s3 :: s4 :: s5 :: s6 :: s7 :: s8 :: s9 :: s10 :: s11 :: s12 :: s13 :: s14 :: s15 :: s16 :: s17 :: s18 :: s19 :: s20 :: s21 :: s22 :: s23 :: s24 :: s25 :: s26 :: s27 :: s28 :: s29 :: s30 :: s31 :: s32 :: s33 :: s34 :: s35 :: s36 :: s37 :: s38 :: s39 :: (.pointer (some ⟨b, 2, none⟩) : Value) :: (.slice (some ⟨gb, off, none⟩) 2 c : Value) :: (.pointer (some ⟨gb, off, none⟩) : Value) :: (.agg #[.int .i64 xk0, .int .i64 xn0, .slice A0 m0 c0] : Value) :: u44 :: (.pointer (some ⟨b, 2, none⟩) : Value) :: (.slice (some ⟨gb, off, none⟩) 2 c : Value) :: (.pointer (some ⟨gb, off + 3, none⟩) : Value) :: (.agg #[.int .i64 xk1, .int .i64 xn1, .slice A1 m1 c1] : Value) :: u49 :: u50 :: ([] : List Value)).toArray, defers := [] } w') :
    (Code.region id rn2_ops.toArray true).wp Try.prog Q { tmps := (s0 :: (.pointer (some ⟨b, 0, none⟩) : Value) :: (.pointer (some ⟨b + 1, 0, none⟩) : Value) :: s3 :: s4 :: s5 :: s6 :: s7 :: s8 :: s9 :: s10 :: s11 :: s12 :: s13 :: s14 :: s15 :: s16 :: s17 :: s18 :: s19 :: s20 :: s21 :: s22 :: s23 :: s24 :: s25 :: s26 :: s27 :: s28 :: s29 :: s30 :: s31 :: s32 :: s33 :: s34 :: s35 :: s36 :: s37 :: s38 :: s39 :: s40 :: s41 :: s42 :: s43 :: s44 :: s45 :: s46 :: s47 :: s48 :: s49 :: s50 :: ([] : List Value)).toArray, defers := [] } w0 := by
  refine wp_region_est (by kernel_rfl) (est2 11 0 (fun k => k = b + 1) (fun _ => False)) rn2_C (rn2_F w0 b k n gb off c g0 B0 xk0 xn0 A0 m0 c0 f0 xk1 xn1 A1 m1 c1 f1 ) (est2_dis (fun k h1 h2 => h2)) (est2_range (fun k h => by have := blk_lt hx4; omega) (fun k h => h.elim)) (by rfl) (by kernel_rfl) (rn2_obs w0.drew b k n gb off c g0 B0 xk0 xn0 A0 m0 c0 f0 xk1 xn1 A1 m1 c1 f1  hx2 hx4 hgb hc0 hc1 hc2 hc3 hc4 hc5 hof0 hof1 hf0 hf1 _ _ rfl rfl) ?_
  intro a w' O hd hs hb hf hf2 ha hsame
  have hx : ∀ (qi : Nat) (qv : Value), nwB rn2_ops.toArray qi = true → (s0 :: (.pointer (some ⟨b, 0, none⟩) : Value) :: (.pointer (some ⟨b + 1, 0, none⟩) : Value) :: s3 :: s4 :: s5 :: s6 :: s7 :: s8 :: s9 :: s10 :: s11 :: s12 :: s13 :: s14 :: s15 :: s16 :: s17 :: s18 :: s19 :: s20 :: s21 :: s22 :: s23 :: s24 :: s25 :: s26 :: s27 :: s28 :: s29 :: s30 :: s31 :: s32 :: s33 :: s34 :: s35 :: s36 :: s37 :: s38 :: s39 :: s40 :: s41 :: s42 :: s43 :: s44 :: s45 :: s46 :: s47 :: s48 :: s49 :: s50 :: ([] : List Value)).toArray.getD qi undef = qv → a.tmps.getD qi undef = qv := fun qi qv h e => (hsame qi (nwB.spec h)).trans e
  have x0 := hx 0 s0 (by kernel_rfl) rfl
  have x1 := hx 1 (.pointer (some ⟨b, 0, none⟩)) (by kernel_rfl) rfl
  have x2 := hx 2 (.pointer (some ⟨b + 1, 0, none⟩)) (by kernel_rfl) rfl
  have x3 := hx 3 s3 (by kernel_rfl) rfl
  have x4 := hx 4 s4 (by kernel_rfl) rfl
  have x5 := hx 5 s5 (by kernel_rfl) rfl
  have x6 := hx 6 s6 (by kernel_rfl) rfl
  have x7 := hx 7 s7 (by kernel_rfl) rfl
  have x8 := hx 8 s8 (by kernel_rfl) rfl
  have x9 := hx 9 s9 (by kernel_rfl) rfl
  have x10 := hx 10 s10 (by kernel_rfl) rfl
  have x11 := hx 11 s11 (by kernel_rfl) rfl
  have x12 := hx 12 s12 (by kernel_rfl) rfl
  have x13 := hx 13 s13 (by kernel_rfl) rfl
  have x14 := hx 14 s14 (by kernel_rfl) rfl
  have x15 := hx 15 s15 (by kernel_rfl) rfl
  have x16 := hx 16 s16 (by kernel_rfl) rfl
  have x17 := hx 17 s17 (by kernel_rfl) rfl
  have x18 := hx 18 s18 (by kernel_rfl) rfl
  have x19 := hx 19 s19 (by kernel_rfl) rfl
  have x20 := hx 20 s20 (by kernel_rfl) rfl
  have x21 := hx 21 s21 (by kernel_rfl) rfl
  have x22 := hx 22 s22 (by kernel_rfl) rfl
  have x23 := hx 23 s23 (by kernel_rfl) rfl
  have x24 := hx 24 s24 (by kernel_rfl) rfl
  have x25 := hx 25 s25 (by kernel_rfl) rfl
  have x26 := hx 26 s26 (by kernel_rfl) rfl
  have x27 := hx 27 s27 (by kernel_rfl) rfl
  have x28 := hx 28 s28 (by kernel_rfl) rfl
  have x29 := hx 29 s29 (by kernel_rfl) rfl
  have x30 := hx 30 s30 (by kernel_rfl) rfl
  have x31 := hx 31 s31 (by kernel_rfl) rfl
  have x32 := hx 32 s32 (by kernel_rfl) rfl
  have x33 := hx 33 s33 (by kernel_rfl) rfl
  have x34 := hx 34 s34 (by kernel_rfl) rfl
  have x35 := hx 35 s35 (by kernel_rfl) rfl
  have x36 := hx 36 s36 (by kernel_rfl) rfl
  have x37 := hx 37 s37 (by kernel_rfl) rfl
  have x38 := hx 38 s38 (by kernel_rfl) rfl
  have x39 := hx 39 s39 (by kernel_rfl) rfl
  have x40 : a.tmps.getD 40 undef = .pointer (some ⟨b, 2, none⟩) := (hf 0 _ 40 rfl rfl (by decide)).1
  have x41 : a.tmps.getD 41 undef = .slice (some ⟨gb, off, none⟩) 2 c := (hf 1 _ 41 rfl rfl (by decide)).1
  have x42 : a.tmps.getD 42 undef = .pointer (some ⟨gb, off, none⟩) := (hf 2 _ 42 rfl rfl (by decide)).1
  have x43 : a.tmps.getD 43 undef = .agg #[.int .i64 xk0, .int .i64 xn0, .slice A0 m0 c0] := (hf 3 _ 43 rfl rfl (by decide)).1
  have x45 : a.tmps.getD 45 undef = .pointer (some ⟨b, 2, none⟩) := (hf 5 _ 45 rfl rfl (by decide)).1
  have x46 : a.tmps.getD 46 undef = .slice (some ⟨gb, off, none⟩) 2 c := (hf 6 _ 46 rfl rfl (by decide)).1
  have x47 : a.tmps.getD 47 undef = .pointer (some ⟨gb, off + 3, none⟩) := (hf 7 _ 47 rfl rfl (by decide)).1
  have x48 : a.tmps.getD 48 undef = .agg #[.int .i64 xk1, .int .i64 xn1, .slice A1 m1 c1] := (hf 8 _ 48 rfl rfl (by decide)).1
  have hl : a.tmps = (s0 :: (.pointer (some ⟨b, 0, none⟩) : Value) :: (.pointer (some ⟨b + 1, 0, none⟩) : Value) :: s3 :: s4 :: s5 :: s6 :: s7 :: s8 :: s9 :: s10 :: s11 :: s12 :: s13 :: s14 :: s15 :: s16 :: s17 :: s18 :: s19 :: s20 :: s21 :: s22 :: s23 :: s24 :: s25 :: s26 :: s27 :: s28 :: s29 :: s30 :: s31 :: s32 :: s33 :: s34 :: s35 :: s36 :: s37 :: s38 :: s39 :: (.pointer (some ⟨b, 2, none⟩) : Value) :: (.slice (some ⟨gb, off, none⟩) 2 c : Value) :: (.pointer (some ⟨gb, off, none⟩) : Value) :: (.agg #[.int .i64 xk0, .int .i64 xn0, .slice A0 m0 c0] : Value) :: (a.tmps.getD 44 undef : Value) :: (.pointer (some ⟨b, 2, none⟩) : Value) :: (.slice (some ⟨gb, off, none⟩) 2 c : Value) :: (.pointer (some ⟨gb, off + 3, none⟩) : Value) :: (.agg #[.int .i64 xk1, .int .i64 xn1, .slice A1 m1 c1] : Value) :: (a.tmps.getD 49 undef : Value) :: (a.tmps.getD 50 undef : Value) :: ([] : List Value)).toArray := by
    have h := lit a.tmps 51 hs
    have e : ((List.range 51).map (fun i => a.tmps.getD i undef)).toArray = ((a.tmps.getD 0 undef : Value) :: (a.tmps.getD 1 undef : Value) :: (a.tmps.getD 2 undef : Value) :: (a.tmps.getD 3 undef : Value) :: (a.tmps.getD 4 undef : Value) :: (a.tmps.getD 5 undef : Value) :: (a.tmps.getD 6 undef : Value) :: (a.tmps.getD 7 undef : Value) :: (a.tmps.getD 8 undef : Value) :: (a.tmps.getD 9 undef : Value) :: (a.tmps.getD 10 undef : Value) :: (a.tmps.getD 11 undef : Value) :: (a.tmps.getD 12 undef : Value) :: (a.tmps.getD 13 undef : Value) :: (a.tmps.getD 14 undef : Value) :: (a.tmps.getD 15 undef : Value) :: (a.tmps.getD 16 undef : Value) :: (a.tmps.getD 17 undef : Value) :: (a.tmps.getD 18 undef : Value) :: (a.tmps.getD 19 undef : Value) :: (a.tmps.getD 20 undef : Value) :: (a.tmps.getD 21 undef : Value) :: (a.tmps.getD 22 undef : Value) :: (a.tmps.getD 23 undef : Value) :: (a.tmps.getD 24 undef : Value) :: (a.tmps.getD 25 undef : Value) :: (a.tmps.getD 26 undef : Value) :: (a.tmps.getD 27 undef : Value) :: (a.tmps.getD 28 undef : Value) :: (a.tmps.getD 29 undef : Value) :: (a.tmps.getD 30 undef : Value) :: (a.tmps.getD 31 undef : Value) :: (a.tmps.getD 32 undef : Value) :: (a.tmps.getD 33 undef : Value) :: (a.tmps.getD 34 undef : Value) :: (a.tmps.getD 35 undef : Value) :: (a.tmps.getD 36 undef : Value) :: (a.tmps.getD 37 undef : Value) :: (a.tmps.getD 38 undef : Value) :: (a.tmps.getD 39 undef : Value) :: (a.tmps.getD 40 undef : Value) :: (a.tmps.getD 41 undef : Value) :: (a.tmps.getD 42 undef : Value) :: (a.tmps.getD 43 undef : Value) :: (a.tmps.getD 44 undef : Value) :: (a.tmps.getD 45 undef : Value) :: (a.tmps.getD 46 undef : Value) :: (a.tmps.getD 47 undef : Value) :: (a.tmps.getD 48 undef : Value) :: (a.tmps.getD 49 undef : Value) :: (a.tmps.getD 50 undef : Value) :: ([] : List Value)).toArray := rfl
    rw [e, x0, x1, x2, x3, x4, x5, x6, x7, x8, x9, x10, x11, x12, x13, x14, x15, x16, x17, x18, x19, x20, x21, x22, x23, x24, x25, x26, x27, x28, x29, x30, x31, x32, x33, x34, x35, x36, x37, x38, x39, x40, x41, x42, x43, x45, x46, x47, x48] at h
    exact h
  obtain ⟨tmps, defers⟩ := a
  obtain rfl : defers = [] := hd
  have hl' : tmps = _ := hl
  rw [hl']
  obtain ⟨⟨v11, hv11⟩, ho11⟩ := hf2 11 _ rfl rfl (by decide)
  have hb' := est2_chg hb
  exact hend w' _ _ _ (O 4) (O 9) v11 (O 11) ⟨hb'.os, hb'.tape, hb'.output, hb'.size, hb'.block⟩ (hf 4 _ 44 rfl rfl (by decide)).1 (hf 4 _ 44 rfl rfl (by decide)).2 (hf 9 _ 49 rfl rfl (by decide)).1 (hf 9 _ 49 rfl rfl (by decide)).2 hv11 ho11

end Go.Proofs.Ytjlhbaohippidaa

/-! RfN -/
namespace Go.Proofs.Ytjlhbaohippidaa
open Go.RowKit Go.Proofs.YtjlhbaohippidaaW.PrintWords Go.RegionInvYtjlhbaohippidaa Go.RegionEYtjlhbaohippidaa

abbrev rnW (w : World) (A : Option Addr) (m c : Nat) (k n : Int) : World := (w.alloc (.cells #[.int .i64 k, .int .i64 n, .slice A m c] 24 (0, 0))).alloc (.cells #[.int .i64 0, .slice none 0 0] 62 (0, 0))
theorem got_boxF {w w1 w' : World} {f : Nf} {O : Nat → Prop} (hb1 : Below w.heap.size w w1) (h : NfBoxF (w.heap.size + 1) f w' O) (hc : Chg (fun k => (fun k => k = w.heap.size + 1) k ∨ (fun _ => False) k) w1 w') (hO : ∀ k, O k → w.heap.size ≤ k) :
    ∃ A n cap, w'.heap[w.heap.size + 1]? = some (.cells #[.int .i64 f.1, .slice A n cap] 62 (0, 0)) ∧ NfGot w (fun _ => False) f (.returned (.agg #[.int .i64 f.1, .slice A n cap])) w' := by
  obtain ⟨A, n, cap, hb, -, h1, h2⟩ := h
  refine ⟨A, n, cap, hb, A, n, cap, rfl, h1, h2.mono fun b hb _ => .inr (hO b hb.1), Chg.trans_below hb1 hc (fun k h => ?_) hb1.size⟩
  rcases h with h | h
  · have : k = w.heap.size + 1 := h
    omega
  · exact h.elim
theorem rep_snoc (j : Nat) (x : Int) : List.replicate (j + 1) x = List.replicate j x ++ [x] := List.replicate_succ'
set_option maxHeartbeats 8000000 in
theorem refNorm_calls (N : Nat) : ∀ (l : Lv), SizeOf.sizeOf l < N → Good l → ∀ (A : Option Addr) (c : Nat) (w : World), LvIn w w.heap.size A c l →
    Calls Try.prog 44 #[lvV A c l] w (NfGot w (fun _ => False) (shortN (sumP l))) := by
  induction N with
  | zero => intro l h; omega
  | succ N ih =>
    rintro ⟨lk, ln, ks⟩ hN hgood A c w hin
    have IH := Aside0.mk ih
    have HIN := Aside0.mk hin
    have HGOOD := Aside0.mk hgood
    clear ih hin hgood
    unfold lvV
    simp only [Lv.kind, Lv.num, Lv.kids]
    have hb1 : Below w.heap.size w (rnW w A ks.length c lk ln) := below_alloc (below_alloc (Below.refl _ _) _) _
    have hx2 : (rnW w A ks.length c lk ln).heap[w.heap.size]? = some (.cells #[.int .i64 lk, .int .i64 ln, .slice A ks.length c] 24 (0, 0)) := box0 w _ _
    have hx4 : (rnW w A ks.length c lk ln).heap[w.heap.size + 1]? = some (.cells #[.int .i64 0, .slice none 0 0] 62 (0, 0)) := box1 w _ _
    have HB1 := Aside0.mk hb1
    have HX2 := Aside0.mk hx2
    have HX4 := Aside0.mk hx4
    have hz1 : (rnW w A ks.length c lk ln).heap.size = w.heap.size + 2 := by simp [rnW]
    have HZ1 := Aside0.mk hz1
    clear hb1 hx2 hx4 hz1
    rcases good_cases HGOOD.out with ⟨rfl, rfl, h0, h1⟩ | ⟨rfl, rfl, h0, h1⟩ | ⟨rfl, x, rfl, h0, h1, hx⟩ | ⟨rfl, x, y, rfl, hx, hy⟩
    · -- a number
      rw [num_sum, short_num]
      obtain ⟨d0, d1, -, -⟩ := row2 HX4.out
      clear HGOOD
      go_enter Try.func44, Try.ntmps44
      go_wp2
      refine bodyPost_ret (results_c rfl _ _ (w.heap.size + 1) 62 #[.int .i64 ln, .slice none 0 0] (0, 0) _ rfl (box1 w _ _) Try.underlying62 rfl (by kernel_rfl)) rfl ?_
      exact ⟨none, 0, 0, rfl, Nat.le_refl _, IntsS.nil _ _, below_alloc (below_alloc (Below.refl _ _) _) _⟩
    · -- a variable
      obtain ⟨i, rfl⟩ := Int.eq_ofNat_of_zero_le h0
      have HE := Aside0.mk (show shortN (sumP (.mk 2 (i : Int) [])) = (0, List.replicate i (-1) ++ [0]) by rw [var_sum, short_var])
      clear HGOOD
      obtain ⟨W, hW⟩ : ∃ W, W = (rnW w A 0 c 2 i).alloc (.cells #[.int .i64 0, .slice none 0 0] 62 (0, 0)) := ⟨_, rfl⟩
      have hst : MkF w W (w.heap.size + 1 + 1) 0 (.slice none 0 0) [] := by
        rw [hW]
        refine ⟨?_, own_nil _ _ _ _, below_alloc HB1.out _⟩
        have := blk_new (rnW w A 0 c 2 i) (.cells #[.int .i64 0, .slice none 0 0] 62 (0, 0))
        simpa [rnW] using this
      have HST := Aside0.mk hst
      have HRES := Aside0.mk (show W.heap[w.heap.size + 1]? = some (.cells #[.int .i64 0, .slice none 0 0] 62 (0, 0)) by rw [hW]; exact blk_alloc HX4.out _)
      have HL := Aside0.mk (show W.heap[w.heap.size]? = some (.cells #[.int .i64 2, .int .i64 i, .slice A 0 c] 24 (0, 0)) by rw [hW]; exact blk_alloc HX2.out _)
      clear hst
      go_enter Try.func44, Try.ntmps44
      go_upto_region 6 with (fail)
      rw [← hW]
      clear hW
      obtain ⟨p0, p1, p2, -, -, -⟩ := row3 HL.out
      go_upto_block 1 with (fail)
      go_cut [] (fun wr => ∃ V, Aside0 (MkF w wr (w.heap.size + 1 + 1) 0 V (List.replicate i (-1))) ∧ Aside0 (wr.heap[w.heap.size + 1]? = some (.cells #[.int .i64 0, .slice none 0 0] 62 (0, 0))))
      case first =>
        clear p0 p1 p2
        go_wp2
        go_loopw [16] (fun k wr => ∃ (j : Nat) (V : Value), k = .int .i64 j ∧ j ≤ i ∧ Aside0 (MkF w wr (w.heap.size + 1 + 1) 0 V (List.replicate j (-1))) ∧ Aside0 (wr.heap[w.heap.size + 1]? = some (.cells #[.int .i64 0, .slice none 0 0] 62 (0, 0)))) (fun k _ => i - (intOf k).toNat)
        case atStart => exact ⟨0, _, rfl, Nat.zero_le _, HST, HRES⟩
        case round =>
          clear HST HRES HL
          obtain ⟨j, V, rfl, hj, HST, HRES⟩ := hrel
          by_cases hlt : j < i
          · obtain ⟨d0, d1, -, e1⟩ := row2 HST.out.box
            obtain ⟨A0, c0, rfl⟩ := own_slice HST.out.row
            obtain ⟨L, hL⟩ : ∃ L, L = (List.replicate j (-1 : Int)).length := ⟨_, rfl⟩
            rw [← hL] at HST d1
            have HLJ := Aside0.mk (show L = j by rw [hL, List.length_replicate])
            have HT := Aside0.mk (rep_snoc j (-1))
            have hbase : w.heap.size + 1 + 1 + 1 ≤ wr.heap.size := blk_lt HST.out.box
            clear hL
            go_wp2_with (first
              | (at_builtin; go_must (refine print_append_num (w0 := wr) (w.heap.size + 1 + 1 + 1) rfl (.tmp 19) (.tmp 20) 29 3 .i64 8 rfl Try.underlying29 infoI64 (by decide) (.slice A0 L c0) (List.replicate j (-1)) (-1) rfl rfl (by have h := HST.out.row; rw [HLJ.out, List.length_replicate] at h; rw [HLJ.out, List.length_replicate]; exact h) (Below.refl _ _) hbase (by rw [List.length_replicate]; omega) ?_; intro v1 w1 ho _ hg _; obtain ⟨A6, L6, c6, rfl, -⟩ := own_slice' ho; have HG := Aside0.mk (HST.out.grow (Nat.le_of_lt (by omega)) ho hg); have HR6 := Aside0.mk (HG.out.2.1 _ _ (by omega) HRES.out); obtain ⟨d0, d1, -, e1⟩ := row2 HG.out.1; clear ho hg)))
            go_roundw
            case rel =>
              refine ⟨j + 1, .slice A6 L6 c6, by go_num, by omega, ⟨?_⟩, ⟨((chg_set w1 (w.heap.size + 1 + 1) 1 _).block _ (blk_lt HR6.out) (by omega)).trans HR6.out⟩⟩
              rw [HT.out]
              exact HG.out.2.2
            case measure => (simp [intOf]; try omega)
          · obtain rfl : j = i := by omega
            have hlt' : decide ((j : Int) < j) = false := by simp
            go_wp2
            go_meet
            case rel => exact ⟨_, HST, HRES⟩
      case rest =>
        clear HST HRES HL p0 p1 p2
        obtain ⟨V, HST, HRES⟩ := hcut
        obtain ⟨d0, d1, -, e1⟩ := row2 HST.out.box
        obtain ⟨A0, c0, rfl⟩ := own_slice HST.out.row
        obtain ⟨L, hL⟩ : ∃ L, L = (List.replicate i (-1 : Int)).length := ⟨_, rfl⟩
        rw [← hL] at HST d1
        have HLJ := Aside0.mk (show L = i by rw [hL, List.length_replicate])
        have hbase : w.heap.size + 1 + 1 + 1 ≤ wc.heap.size := blk_lt HST.out.box
        have HLN := Aside0.mk (show (List.replicate i (-1 : Int) ++ [0]).length = i + 1 by simp)
        clear hL
        go_upto_region 11 with (first
          | (at_builtin; go_must (refine print_append_num (w0 := wc) (w.heap.size + 1 + 1 + 1) rfl (.tmp 25) (.tmp 26) 29 3 .i64 8 rfl Try.underlying29 infoI64 (by decide) (.slice A0 L c0) (List.replicate i (-1)) 0 rfl rfl (by have h := HST.out.row; rw [HLJ.out, List.length_replicate] at h; rw [HLJ.out, List.length_replicate]; exact h) (Below.refl _ _) hbase (by rw [List.length_replicate]; omega) ?_; intro v1 w1 ho _ hg _; obtain ⟨A6, c6, hv6, hcap6, hi6⟩ := IntsS.of_own ho; rw [HLN.out] at hv6 hcap6 hi6; subst hv6; have HCAP6 := Aside0.mk hcap6; have HI6 := Aside0.mk hi6; clear hcap6 hi6; have HG := Aside0.mk (HST.out.grow (Nat.le_of_lt (by omega)) ho hg); have HR6 := Aside0.mk (HG.out.2.1 _ _ (by omega) HRES.out); obtain ⟨d0, d1, -, e1⟩ := row2 HG.out.1; clear ho hg)))
        have HM := Aside0.mk HG.out.2.2
        have hch0 := chg_set w1 (w.heap.size + 1 + 1) 1 (.slice A6 (i + 1) c6)
        have HR7 := Aside0.mk ((hch0.block _ (blk_lt HR6.out) (by omega)).trans HR6.out)
        have HI7 := Aside0.mk (HI6.out.same fun b hb hz => hch0.block b hz (by omega))
        obtain ⟨W2, hW2⟩ : ∃ W2, W2 = w1.setCell ⟨w.heap.size + 1 + 1, 1, none⟩ (.slice A6 (i + 1) c6) := ⟨_, rfl⟩
        rw [← hW2] at HM HR7 HI7 ⊢
        clear hW2 hch0 HG HR6 HI6 d0 d1 e1
        obtain ⟨d0, d1, -, -⟩ := row2 HM.out.box
        obtain ⟨f0, f1, g0, g1⟩ := row2 HR7.out
        go_wp2
        have hch := chg_set2 W2 (w.heap.size + 1) (.int .i64 0) (.slice A6 (i + 1) c6)
        refine bodyPost_ret (results_c rfl _ _ (w.heap.size + 1) 62 #[.int .i64 0, .slice A6 (i + 1) c6] (0, 0) _ rfl (set2 HR7.out) Try.underlying62 rfl (by kernel_rfl)) rfl ?_
        rw [HE.out]
        exact ⟨A6, i + 1, c6, rfl, HCAP6.out, (HI7.out.same fun b hb hz => hch.block b hz (by omega)).mono fun b hb _ => .inr (by omega), Chg.trans_below HM.out.bel hch (fun _ e => by omega) HM.out.bel.size⟩
    · -- so much more
      obtain ⟨A', c', hcs, hxin⟩ := HIN.out.kid 0 x rfl
      obtain ⟨gb, off, rfl, hgb⟩ := kid_ptr hcs
      have hc := lit_kid (hcs.same (w' := rnW w (some ⟨gb, off, none⟩) [x].length c 3 ln) fun k hk _ => HB1.out.block k hk)
      have hsok : NfOk (sumP x) := ofP_ok (fun _ h => by cases h) hx
      have HOK := Aside0.mk (short_ok hsok)
      have HE := Aside0.mk (show shortN (sumP (.mk 3 ln [x])) = shortN (plusR ln (shortN (sumP x))) by rw [short_plus hsok (by omega) h1]; show shortN (ofP [] _) = _; rw [ofP_succ]; rfl)
      have HXIN := Aside0.mk hxin
      have HC := Aside0.mk hc
      have HX := Aside0.mk hx
      clear hcs hc hx hxin HGOOD hsok
      rw [HE.out]
      go_enter Try.func44, Try.ntmps44
      go_upto_region 13 with (fail)
      refine rn1_region (rnW w (some ⟨gb, off, none⟩) [x].length c 3 ln) w.heap.size 3 ln gb off 1 c (.int .i64 0) (.slice none 0 0) x.kind x.num A' x.kids.length c' (shortN (sumP x)) HX2.out HX4.out hgb HC.out.1 HC.out.2.1 HC.out.2.2 (fun w5 hw5 hz5 => ?_) (by decide) (by omega) h1 HOK.out ?_
      · have hkid := kid_small (k := 3) (n := ln) (ks := [x]) (i := 0) (x := x) rfl
        exact IH.out x (by omega) HX.out A' c' w5 (LvS.all (HXIN.out.same fun k hk _ => (hw5 k hk).trans (HB1.out.block k hk)))
      · intro w' u36 u39 O4 v8 O8 hch _ _ hbox ho8
        obtain ⟨A6, n6, cap6, hb6, hgot⟩ := got_boxF HB1.out hbox hch (fun k hk => Nat.le_of_succ_le (fix_not (ho8 k hk).2 (fun i h => h.elim And.right fun h => h.2.elim) (by rw [HZ1.out]; omega)))
        have HG := Aside0.mk hgot
        have HB6 := Aside0.mk hb6
        clear hch hbox ho8 hb6 hgot
        go_wp2
        exact bodyPost_ret (results_c rfl _ _ (w.heap.size + 1) 62 #[.int .i64 (shortN (plusR ln (shortN (sumP x)))).1, .slice A6 n6 cap6] (0, 0) _ rfl HB6.out Try.underlying62 rfl (by kernel_rfl)) rfl HG.out
    · -- the greater one of two
      obtain ⟨A', c', hcs, hxin⟩ := HIN.out.kid 0 x rfl
      obtain ⟨A'', c'', hcs', hyin⟩ := HIN.out.kid 1 y rfl
      obtain ⟨gb, off, rfl, hgb⟩ := kid_ptr hcs
      have hc := lit_kid (hcs.same (w' := rnW w (some ⟨gb, off, none⟩) [x, y].length c 4 ln) fun k hk _ => HB1.out.block k hk)
      have hc' := lit_kid (hcs'.same (w' := rnW w (some ⟨gb, off, none⟩) [x, y].length c 4 ln) fun k hk _ => HB1.out.block k hk)
      have hsx : NfOk (sumP x) := ofP_ok (fun _ h => by cases h) hx
      have hsy : NfOk (sumP y) := ofP_ok (fun _ h => by cases h) hy
      have HOK := Aside0.mk (short_ok hsx)
      have HOK' := Aside0.mk (short_ok hsy)
      have HE := Aside0.mk (show shortN (sumP (.mk 4 ln [x, y])) = shortN (orN (shortN (sumP x)) (shortN (sumP y))) by rw [short_or hsx hsy]; show shortN (ofP [] _) = _; rw [ofP_max]; rfl)
      have HXIN := Aside0.mk hxin
      have HYIN := Aside0.mk hyin
      have HC := Aside0.mk hc
      have HC' := Aside0.mk hc'
      have HX := Aside0.mk hx
      have HY := Aside0.mk hy
      clear hcs hc hx hxin hcs' hc' hy hyin HGOOD hsx hsy
      rw [HE.out]
      go_enter Try.func44, Try.ntmps44
      go_upto_region 14 with (fail)
      refine rn2_region (rnW w (some ⟨gb, off, none⟩) [x, y].length c 4 ln) w.heap.size 4 ln gb off c (.int .i64 0) (.slice none 0 0) x.kind x.num A' x.kids.length c' (shortN (sumP x)) y.kind y.num A'' y.kids.length c'' (shortN (sumP y)) HX2.out HX4.out hgb HC.out.1 HC.out.2.1 HC.out.2.2 HC'.out.1 HC'.out.2.1 HC'.out.2.2 (fun w5 hw5 hz5 => ?_) (fun w5 hw5 hz5 => ?_) HOK.out HOK'.out ?_
      · have hkid := kid_small (k := 4) (n := ln) (ks := [x, y]) (i := 0) (x := x) rfl
        exact IH.out x (by omega) HX.out A' c' w5 (LvS.all (HXIN.out.same fun k hk _ => (hw5 k hk).trans (HB1.out.block k hk)))
      · have hkid := kid_small (k := 4) (n := ln) (ks := [x, y]) (i := 1) (x := y) rfl
        exact IH.out y (by omega) HY.out A'' c'' w5 (LvS.all (HYIN.out.same fun k hk _ => (hw5 k hk).trans (HB1.out.block k hk)))
      · intro w' u44 u49 u50 O4 O9 v11 O11 hch _ _ _ _ hbox ho11
        obtain ⟨A6, n6, cap6, hb6, hgot⟩ := got_boxF HB1.out hbox hch (fun k hk => Nat.le_of_succ_le (fix_not (ho11 k hk).2 (fun i h => h.elim And.right fun h => h.2.elim) (by rw [HZ1.out]; omega)))
        have HG := Aside0.mk hgot
        have HB6 := Aside0.mk hb6
        clear hch hbox ho11 hb6 hgot
        go_wp2
        exact bodyPost_ret (results_c rfl _ _ (w.heap.size + 1) 62 #[.int .i64 (shortN (orN (shortN (sumP x)) (shortN (sumP y)))).1, .slice A6 n6 cap6] (0, 0) _ rfl HB6.out Try.underlying62 rfl (by kernel_rfl)) rfl HG.out
end Go.Proofs.Ytjlhbaohippidaa

/-! RfL -/
namespace Go.Proofs.Ytjlhbaohippidaa
open Go.RowKit Go.Proofs.YtjlhbaohippidaaW.PrintWords Go.RegionInvYtjlhbaohippidaa Go.RegionEYtjlhbaohippidaa

theorem varL_zero {k : Int} {i : Nat} (h : k < 1) (hi : i ≤ 1000) : varL k i = .mk 2 i [] := by unfold varL; rw [plP_own h, own_var hi]
theorem varL_pos {k : Int} {i : Nat} (h : 0 < k) (hi : i ≤ 1000) : varL k i = .mk 3 k [.mk 2 i []] := by unfold varL; rw [plP_new (by omega) (by simp [Lv.kind]), own_var hi]
structure PF (w wr : World) (c : Int) (B : Value) (V : Value) (xs : List Lv) : Prop where
  x1 : wr.heap[w.heap.size]? = some (.cells #[.int .i64 c, B] 62 (0, 0))
  x2 : wr.heap[w.heap.size + 1]? = some (.cells #[.int .i64 0, .int .i64 0, .slice none 0 0] 24 (0, 0))
  kids : KidsAt wr (w.heap.size + 2) V xs
  bel : Below w.heap.size w wr
theorem PF.later {w wr w' : World} {c : Int} {B V : Value} {xs : List Lv} (h : PF w wr c B V xs) (hb : Below wr.heap.size wr w') : PF w w' c B V xs :=
  ⟨blk_below h.x1 hb, blk_below h.x2 hb, h.kids.later hb, below_then h.bel h.bel.size hb⟩
theorem PF.base {w wr : World} {c : Int} {B V : Value} {xs : List Lv} (h : PF w wr c B V xs) : w.heap.size + 2 ≤ wr.heap.size := by have := blk_lt h.x2; omega
theorem pf_push {w w5 w6 : World} {c : Int} {B V v6 : Value} {xs : List Lv} {A5 : Option Addr} {c5 : Nat} {x : Lv} {cells : List Value} {fA : Nat → Option Addr} {fc : Nat → Nat} (h : PF w w5 c B V xs)
    (ho : w5.ownsRow (w.heap.size + 2) 24 3 V xs.length cells)
    (hk : ∀ (i : Nat) (x : Lv), xs[i]? = some x → cells[i * 3]? = some (.int .i64 x.kind) ∧ cells[i * 3 + 1]? = some (.int .i64 x.num) ∧ cells[i * 3 + 2]? = some (.slice (fA i) x.kids.length (fc i)) ∧ LvS w5 (fun b => w.heap.size + 2 ≤ b ∧ V.ownBlock ≠ some b) (fA i) (fc i) x)
    (hl : LvS w5 (fun b => w.heap.size + 2 ≤ b ∧ V.ownBlock ≠ some b) A5 c5 x)
    (ho1 : w6.ownsRow (w.heap.size + 2) 24 3 v6 (xs.length + 1) (cells ++ [.int .i64 x.kind, .int .i64 x.num, .slice A5 x.kids.length c5])) (hg : w5.grownBy w6 V.ownBlock) (hat : v6.ownBlock = V.ownBlock ∨ ∃ b, v6.ownBlock = some b ∧ w5.heap.size ≤ b) : PF w w6 c B v6 (xs ++ [x]) := by
  have far : ∀ k, k < w.heap.size + 2 → some k ≠ V.ownBlock := fun k hk e => by have := own_base ho k e.symm; omega
  refine ⟨?_, ?_, KidsAt.push ho hk hl ho1 hg hat, ⟨hg.os.trans h.bel.os, hg.tape.trans h.bel.tape, hg.output.trans h.bel.output, Nat.le_trans h.bel.size hg.size, fun i hi => ?_⟩⟩
  · rw [hg.block _ (blk_lt h.x1) (far _ (by omega))]; exact h.x1
  · rw [hg.block _ (blk_lt h.x2) (far _ (by omega))]; exact h.x2
  · rw [hg.block i (Nat.lt_of_lt_of_le hi h.bel.size) (far i (by omega))]; exact h.bel.block i hi
theorem freshF_away {w wr w5 : World} {c : Int} {B V : Value} {xs : List Lv} {A : Option Addr} {c5 : Nat} {x : Lv} {m : Nat} (h : PF w wr c B V xs) (hm : wr.heap.size ≤ m) (hl : LvS w5 (fun b => False ∨ m ≤ b) A c5 x) : LvS w5 (fun b => w.heap.size + 2 ≤ b ∧ V.ownBlock ≠ some b) A c5 x := by
  have hb := h.base
  obtain ⟨cells, fA, fc, ho, _⟩ := h.kids
  refine hl.mono fun b hb' _ => ?_
  rcases hb' with hb' | hb'
  · exact hb'.elim
  · exact ⟨by omega, fun e => by have := own_lt ho b e; omega⟩
set_option maxHeartbeats 8000000 in
theorem refLevel_calls (A : Option Addr) (n cap : Nat) (c : Int) (ks : List Int) (w : World) (hr : ReadsInt w .i64 A n ks) (hok : NfOk (c, ks)) (hlen : n ≤ 1001) (hne : partsN (c, ks) ≠ []) :
    Calls Try.prog 47 #[.agg #[.int .i64 c, .slice A n cap]] w (LvGot w (fun _ => False) (lvlN (c, ks))) := by
  have HR := Aside0.mk hr
  have HN := Aside0.mk hr.1
  have HOK := Aside0.mk hok
  have HNE := Aside0.mk hne
  have hc0 := hok.1
  clear hr hok hne
  obtain ⟨W, hW⟩ : ∃ W, W = ((w.alloc (.cells #[.int .i64 c, .slice A n cap] 62 (0, 0))).alloc (.cells #[.int .i64 0, .int .i64 0, .slice none 0 0] 24 (0, 0))) := ⟨_, rfl⟩
  have hst : PF w W c (.slice A n cap) (.slice none 0 0) [] := by
    rw [hW]
    exact ⟨box0 w _ _, box1 w _ _, KidsAt.nil _ _, below_alloc (below_alloc (Below.refl _ _) _) _⟩
  have HST := Aside0.mk hst
  clear hst
  go_enter Try.func47, Try.ntmps47
  go_upto_region 2 with (fail)
  rw [← hW]
  clear hW
  obtain ⟨d0, d1, -, -⟩ := row2 HST.out.x1
  go_cut [18] (fun v wr => v = .bool (decide (0 < c ∨ ks = [])) ∧ wr = W)
  case first =>
    by_cases hc : 0 < c
    · have HD := Aside0.mk (show decide (0 < c ∨ ks = []) = true from decide_eq_true (.inl hc))
      go_wp2
      go_meet
      case rel => exact ⟨by rw [HD.out], by first | rfl | trivial⟩
    · by_cases hn : n = 0
      · have HD := Aside0.mk (show decide (0 < c ∨ ks = []) = true from decide_eq_true (.inr (List.eq_nil_of_length_eq_zero (by rw [HN.out]; exact hn))))
        have hb : ((n : Int) == 0) = true := by simp [hn]
        clear hn
        go_wp2
        go_meet
        case rel => exact ⟨by rw [HD.out], by first | rfl | trivial⟩
      · have HD := Aside0.mk (show decide (0 < c ∨ ks = []) = false from decide_eq_false fun h => h.elim hc fun h => hn (by rw [← HN.out, h]; rfl))
        have hb : ((n : Int) == 0) = false := by simp; omega
        go_wp2
        go_meet
        case rel => exact ⟨by rw [HD.out], by first | rfl | trivial⟩
  case rest =>
    obtain ⟨rfl, rfl⟩ := hcut
    obtain ⟨bb, hbb⟩ : ∃ bb, bb = decide (0 < c ∨ ks = []) := ⟨_, rfl⟩
    rw [← hbb]
    have HP0 := Aside0.mk (show partsK (c, ks) 0 = (if bb = true then [.mk 1 c []] else []) by
      rw [partsK, hbb]; simp)
    clear hbb
    go_upto_if 18 with (fail)
    go_cut [3] (fun v wr => Aside0 (PF w wr c (.slice A n cap) v (partsK (c, ks) 0)))
    case first =>
      cases bb with
      | true =>
        have HL5 := Aside0.mk (show LvS wc (fun b => w.heap.size + 2 ≤ b ∧ (Value.slice none 0 0).ownBlock ≠ some b) none 0 (.mk 1 c []) from LvS.leaf _ _ _ _)
        go_wp2_with (first
          | (at_builtin; go_must (obtain ⟨cells, fA, fc, hown, hkids⟩ := HST.out.kids; refine print_append_cells (w0 := wc) (W := wc) (w.heap.size + 2) rfl (.tmp 19) (.tmp 23) 22 24 _ 3 40 rfl Try.underlying22 infoLv rfl (by decide) (by decide) (.slice none 0 0) 0 cells [.int .i64 1, .int .i64 c, .slice none 0 0] rfl rfl rfl (by simp [Value.oneCell']) hown (Below.refl _ _) HST.out.base (by decide) ?_; intro v6 w6 ho6 _ hg6 hat6; have ST6 := Aside0.mk (pf_push HST.out hown hkids HL5.out ho6 hg6 hat6); obtain ⟨A6, L6, c6, rfl, -⟩ := own_slice' ho6; clear hown hkids ho6 hg6 hat6)))
        go_meet
        case rel => exact ⟨by rw [HP0.out]; exact ST6.out⟩
      | false =>
        go_wp2
        go_meet
        case rel => exact ⟨by rw [HP0.out]; exact HST.out⟩
    case rest =>
      clear HST HP0 d0 d1
      obtain ⟨HST⟩ := hcut
      have HST := Aside0.mk HST
      obtain ⟨d0, d1, -, -⟩ := row2 HST.out.x1
      go_upto_block 0 with (fail)
      go_cut [3] (fun v wr => Aside0 (PF w wr c (.slice A n cap) v (partsN (c, ks))))
      case first =>
        go_wp2
        go_loopw [28, 3] (fun i v wr => ∃ (j : Nat), i = .int .i64 j ∧ j ≤ n ∧ Aside0 (PF w wr c (.slice A n cap) v (partsK (c, ks) j))) (fun i _ _ => n - (intOf i).toNat)
        case atStart => exact ⟨0, rfl, Nat.zero_le _, HST⟩
        case round =>
          clear HST d0 d1
          obtain ⟨j, rfl, hj, HST⟩ := hrel
          by_cases hlt : j < n
          · obtain ⟨ad, rfl, hcx⟩ := (HR.out.below HST.out.bel).at_ j (by omega) (by omega)
            rw [Int.toNat_natCast] at hcx
            obtain ⟨y, hy⟩ : ∃ y, y = rd ks j := ⟨_, rfl⟩
            rw [← hy] at hcx
            have hyr : -1 ≤ y ∧ y ≤ 1099511627776 := by
              have := atP_ok HOK.out.2.2.1 j
              rw [atP_lt (by rw [HN.out]; exact hlt), ← hy] at this
              exact this
            have HPK := Aside0.mk (show partsK (c, ks) (j + 1) = partsK (c, ks) j ++ (if 0 ≤ y then [varL y j] else []) by rw [partsK, hy])
            have hpl := parts_len (c, ks) j
            clear hy
            have hjn : j ≤ 1000 := by omega
            obtain ⟨xs, hxs⟩ : ∃ xs, xs = partsK (c, ks) j := ⟨_, rfl⟩
            rw [← hxs] at HST HPK hpl
            clear hxs
            obtain ⟨cl0, fA0, fc0, hown0, -⟩ := HST.out.kids
            obtain ⟨A0, L0, cp0, rfl, -⟩ := own_slice' hown0
            clear hown0
            obtain ⟨W4, hW4⟩ : ∃ W4, W4 = wr.alloc (.cells #[.int .i64 2, .int .i64 j, .slice none 0 0] 24 (0, 0)) := ⟨_, rfl⟩
            have HBX := Aside0.mk (show W4.heap[wr.heap.size]? = some (.cells #[.int .i64 2, .int .i64 j, .slice none 0 0] 24 (0, 0)) by rw [hW4]; exact blk_new _ _)
            have HST4 := Aside0.mk (HST.out.later (show Below wr.heap.size wr W4 by rw [hW4]; exact below_alloc (Below.refl _ _) _))
            have HB4 := Aside0.mk (show Below wr.heap.size wr W4 by rw [hW4]; exact below_alloc (Below.refl _ _) _)
            have HZ4 := Aside0.mk (show W4.heap.size = wr.heap.size + 1 by rw [hW4]; simp)
            go_upto_region 8 with (fail)
            rw [← hW4]
            clear hW4
            obtain ⟨b0, b1, b2, f0, f1, f2⟩ := row3 HBX.out
            by_cases hy0 : 0 < y
            · have HPK' := Aside0.mk (show partsK (c, ks) (j + 1) = xs ++ [.mk 3 y [.mk 2 j []]] by rw [HPK.out, if_pos (by omega), varL_pos hy0 hjn])
              have hpz := blk_lt HBX.out
              go_upto_region 10 with (fail)
              have hs3 := set3 (a := .int .i64 3) (b := .int .i64 y) (c := .slice (some ⟨W4.heap.size, 0, none⟩) 1 1) HBX.out
              have hch := chg_set3 W4 wr.heap.size (.int .i64 3) (.int .i64 y) (.slice (some ⟨W4.heap.size, 0, none⟩) 1 1)
              obtain ⟨W5, hW5⟩ : ∃ W5, W5 = ((W4.setCell ⟨wr.heap.size, 0, none⟩ (.int .i64 3)).setCell ⟨wr.heap.size, 1, none⟩ (.int .i64 y)).setCell ⟨wr.heap.size, 2, none⟩ (.slice (some ⟨W4.heap.size, 0, none⟩) 1 1) := ⟨_, rfl⟩
              have hz5 : W5.heap.size = W4.heap.size := by rw [hW5]; simp [World.setCell]
              rw [← hW5] at hs3 hch ⊢
              clear hW5
              obtain ⟨W6, hW6⟩ : ∃ W6, W6 = W5.alloc (.cells #[.int .i64 2, .int .i64 j, .slice none 0 0] 24 (0, 0)) := ⟨_, rfl⟩
              have HBX6 := Aside0.mk (show W6.heap[wr.heap.size]? = some (.cells #[.int .i64 3, .int .i64 y, .slice (some ⟨W4.heap.size, 0, none⟩) 1 1] 24 (0, 0)) by rw [hW6]; exact blk_alloc hs3 _)
              have hb6 : Below wr.heap.size wr W6 := by rw [hW6]; exact Chg.trans_below HB4.out (chg_trans hch (chg_alloc _ _ _)) (fun _ e => by omega) HB4.out.size
              have HST6 := Aside0.mk (HST.out.later hb6)
              have hk6 : W6.heap[W4.heap.size]? = some (.cells #[.int .i64 2, .int .i64 j, .slice none 0 0] 24 (0, 0)) := by rw [hW6, ← hz5]; exact blk_new _ _
              have HL6 := Aside0.mk (freshF_away HST.out (Nat.le_refl _) (show LvS W6 (fun b => False ∨ wr.heap.size ≤ b) (some ⟨W4.heap.size, 0, none⟩) 1 (.mk 3 y [.mk 2 j []]) from LvS.one (x := .mk 2 j []) hk6 (LvS.leaf _ _ _ _) (.inr (by omega)) 3 y))
              rw [← hW6]
              clear hW6 hs3 hch hb6 hk6 hz5 b0 b1 b2 f0 f1 f2
              obtain ⟨b0, b1, b2, -, -, -⟩ := row3 HBX6.out
              have hy1 : 0 ≤ y := by omega
              go_wp2_with (first
                | (at_builtin; go_must (obtain ⟨cells, fA, fc, hown, hkids⟩ := HST6.out.kids; refine print_append_cells (w0 := W6) (W := W6) (w.heap.size + 2) rfl (.tmp 43) (.tmp 45) 22 24 _ 3 40 rfl Try.underlying22 infoLv rfl (by decide) (by decide) (.slice A0 L0 cp0) xs.length cells [.int .i64 3, .int .i64 y, .slice (some ⟨W4.heap.size, 0, none⟩) 1 1] rfl rfl rfl (by simp [Value.oneCell']) hown (Below.refl _ _) HST6.out.base (by omega) ?_; intro v6 w6 ho6 _ hg6 hat6; have ST6 := Aside0.mk (pf_push HST6.out hown hkids HL6.out ho6 hg6 hat6); obtain ⟨A6, L6, c6, rfl, -⟩ := own_slice' ho6; clear hown hkids ho6 hg6 hat6)))
              go_roundw
              case rel => exact ⟨j + 1, by go_num, by omega, ⟨by rw [HPK'.out]; exact ST6.out⟩⟩
              case measure => (simp [intOf]; try omega)
            · by_cases hy1 : 0 ≤ y
              · have HPK' := Aside0.mk (show partsK (c, ks) (j + 1) = xs ++ [.mk 2 j []] by rw [HPK.out, if_pos hy1, varL_zero (by omega) hjn])
                have HL5 := Aside0.mk (show LvS W4 (fun b => w.heap.size + 2 ≤ b ∧ (Value.slice A0 L0 cp0).ownBlock ≠ some b) none 0 (.mk 2 j []) from LvS.leaf _ _ _ _)
                go_wp2_with (first
                  | (at_builtin; go_must (obtain ⟨cells, fA, fc, hown, hkids⟩ := HST4.out.kids; refine print_append_cells (w0 := W4) (W := W4) (w.heap.size + 2) rfl (.tmp 43) (.tmp 45) 22 24 _ 3 40 rfl Try.underlying22 infoLv rfl (by decide) (by decide) (.slice A0 L0 cp0) xs.length cells [.int .i64 2, .int .i64 j, .slice none 0 0] rfl rfl rfl (by simp [Value.oneCell']) hown (Below.refl _ _) HST4.out.base (by omega) ?_; intro v6 w6 ho6 _ hg6 hat6; have ST6 := Aside0.mk (pf_push HST4.out hown hkids HL5.out ho6 hg6 hat6); obtain ⟨A6, L6, c6, rfl, -⟩ := own_slice' ho6; clear hown hkids ho6 hg6 hat6)))
                go_roundw
                case rel => exact ⟨j + 1, by go_num, by omega, ⟨by rw [HPK'.out]; exact ST6.out⟩⟩
                case measure => (simp [intOf]; try omega)
              · have HPK' := Aside0.mk (show partsK (c, ks) (j + 1) = xs by rw [HPK.out, if_neg hy1, List.append_nil])
                go_wp2
                go_roundw
                case rel => exact ⟨j + 1, by go_num, by omega, ⟨by rw [HPK'.out]; exact HST4.out⟩⟩
                case measure => (simp [intOf]; try omega)
          · obtain rfl : j = n := by omega
            have hlt' : decide ((j : Int) < j) = false := by simp
            go_wp2
            go_meet
            case rel =>
              refine ⟨?_⟩
              unfold partsN
              rw [show ((c, ks) : Nf).2.length = j from HN.out]
              exact HST.out
      case rest =>
        clear HST d0 d1
        obtain ⟨HST⟩ := hcut
        cases hp : partsN (c, ks) with
        | nil => exact absurd hp HNE.out
        | cons x r =>
          have HE := Aside0.mk (show lvlN (c, ks) = foldM x r by unfold lvlN; rw [hp])
          rw [hp] at HST
          have HST := Aside0.mk HST
          clear hp
          obtain ⟨A9, c9, rfl, hlv⟩ := HST.out.kids.level
          have HLV := Aside0.mk (hlv 0 0)
          have hcap := HLV.out.len
          simp only [Lv.kids, List.length_cons] at hcap
          obtain ⟨A', c', hcs, hx0⟩ := HLV.out.kid 0 x rfl
          obtain ⟨gb, off, rfl, hgb⟩ := kid_ptr hcs
          obtain ⟨g0, g1, g2⟩ := lit_kid hcs
          simp only [Nat.zero_mul, Nat.add_zero] at g0 g1 g2
          have HX0 := Aside0.mk hx0
          have hgl : gb < wc.heap.size := World.block_lt_of_cell? wc _ g0
          have hbase := HST.out.base
          obtain ⟨N, hN⟩ : ∃ N, N = r.length := ⟨_, rfl⟩
          have hlen2 : (x :: r).length = N + 1 := by rw [hN]; rfl
          rw [hlen2]
          rw [← hN] at hcap
          have HNR := Aside0.mk hN
          clear hcs hx0 hlv hlen2 hN
          go_upto_block 2 with (fail)
          obtain ⟨P9, hP9⟩ : ∃ P9 : Option Addr, P9 = (if c9 = 1 then some ⟨gb, off, none⟩ else some ⟨gb, off + 3, none⟩) := ⟨_, rfl⟩
          rw [← hP9]
          have HP9 := Aside0.mk hP9
          have hout : OutB (w.heap.size + 2) wc (wc.alloc (.cells #[.int .i64 x.kind, .int .i64 x.num, .slice A' x.kids.length c'] 24 (0, 0))) (foldM x (r.take 0)) A' c' := by
            have hb : Below wc.heap.size wc (wc.alloc (.cells #[.int .i64 x.kind, .int .i64 x.num, .slice A' x.kids.length c'] 24 (0, 0))) := below_alloc (Below.refl _ _) _
            exact ⟨blk_new _ _, ((HX0.out.mono (S' := fun b => w.heap.size + 2 ≤ b ∧ b ≠ wc.heap.size) fun b hb hz => ⟨hb, by omega⟩).later hb), hb⟩
          have HOUT := Aside0.mk hout
          clear hP9 hout g0 g1 g2
          go_wp2
          go_loopw [54] (fun i wr => ∃ (j : Nat) (A6 : Option Addr) (c6 : Nat), i = .int .i64 j ∧ j ≤ N ∧ Aside0 (OutB (w.heap.size + 2) wc wr (foldM x (r.take j)) A6 c6)) (fun i _ => N - (intOf i).toNat)
          case atStart => exact ⟨0, A', c', rfl, Nat.zero_le _, HOUT⟩
          case round =>
            clear HOUT
            obtain ⟨j, A6, c6, rfl, hj, HOUT⟩ := hrel
            obtain ⟨d0, d1, d2, e0, e1, e2⟩ := row3 HOUT.out.box
            obtain ⟨o, ho⟩ : ∃ o, o = foldM x (r.take j) := ⟨_, rfl⟩
            rw [← ho] at HOUT d0 d1 d2
            have HO := Aside0.mk ho
            clear ho
            by_cases hlt : j < N
            · obtain rfl : P9 = some ⟨gb, off + 3, none⟩ := by rw [HP9.out, if_neg (by omega)]
              have hlr : j < r.length := by rw [← HNR.out]; exact hlt
              obtain ⟨q, hq⟩ : ∃ q, r[j]? = some q := ⟨_, List.getElem?_eq_getElem hlr⟩
              obtain ⟨A7, c7, hcs, hqin⟩ := HLV.out.kid (j + 1) q (by simpa [Lv.kids] using hq)
              obtain ⟨g0, g1, g2⟩ := lit_kid (hcs.same (w' := wr) fun k _ hk => HOUT.out.bel.block k hk)
              rw [show off + (j + 1) * 3 = off + 3 + j * 3 by omega] at g0 g1 g2
              have HQ := Aside0.mk hqin
              have HFS := Aside0.mk (show foldM x (r.take (j + 1)) = .mk 4 0 [o, q] by rw [List.take_add_one, hq]; show foldM x (r.take j ++ [q]) = _; rw [foldM_snoc, HO.out])
              have hpz := blk_lt HOUT.out.box
              clear hcs hqin hq
              go_wp2
              exact ⟨⟨j + 1, _, _, by go_num, by omega, ⟨by rw [HFS.out]; exact outb_next HOUT.out hbase HQ.out⟩⟩, by simp [intOf]; omega⟩
            · obtain rfl : j = N := by omega
              have hlt' : decide ((j : Int) < j) = false := by simp
              have HX2 := Aside0.mk (blk_below HST.out.x2 HOUT.out.bel)
              obtain ⟨z0, z1, z2, y0, y1, y2⟩ := row3 HX2.out
              have HF := Aside0.mk (show lvlN (c, ks) = o by rw [HE.out, HO.out, List.take_of_length_le (by rw [← HNR.out]; exact Nat.le_refl _)])
              go_wp2
              refine bodyPost_ret (results_c rfl _ _ (w.heap.size + 1) 24 #[.int .i64 o.kind, .int .i64 o.num, .slice A6 o.kids.length c6] (0, 0) _ rfl (set3 HX2.out) Try.underlying24 rfl (by kernel_rfl)) rfl ?_
              have hch := chg_set3 wr (w.heap.size + 1) (.int .i64 o.kind) (.int .i64 o.num) (.slice A6 o.kids.length c6)
              have hbw := below_then HST.out.bel HST.out.bel.size HOUT.out.bel
              rw [HF.out]
              exact ⟨A6, c6, rfl, (HOUT.out.lv.same fun b hb hz => hch.block b hz (by omega)).mono fun b hb _ => .inr (by omega), Chg.trans_below hbw hch (fun _ e => by omega) hbw.size⟩
end Go.Proofs.Ytjlhbaohippidaa
