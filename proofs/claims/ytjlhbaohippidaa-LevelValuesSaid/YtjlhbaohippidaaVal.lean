/-
  A level's value, plainly; the walk of Value.
-/
import Derived.Test.YtjlhbaohippidaaOrd
namespace Go.Proofs.Ytjlhbaohippidaa
open Go.RowKit Go.Proofs.YtjlhbaohippidaaW.PrintWords Go.RegionInvYtjlhbaohippidaa Go.RegionEYtjlhbaohippidaa

def vAt (vs : List Int) (i : Nat) : Int := if i < vs.length then min 1099511627776 (max 0 (rd vs (i : Nat))) else 0
def valK (vs : List Int) (f : Nf) : Nat → Int
  | 0 => f.1
  | j + 1 => if rd f.2 (j : Nat) < 0 then valK vs f j else max (valK vs f j) (min 1099511627776 (vAt vs j + rd f.2 (j : Nat)))
def valN (vs : List Int) (f : Nf) : Int := valK vs f f.2.length
theorem vAt_in (vs : List Int) (i : Nat) : 0 ≤ vAt vs i ∧ vAt vs i ≤ 1099511627776 := by unfold vAt; split <;> omega
mutual
def valR (vs : List Int) : Lv → Int
  | .mk k n ks => if k = 1 then n else if k = 2 then vAt vs n.toNat else if k = 3 then min 1099511627776 (val0 vs ks + n) else max (val0 vs ks) (val1 vs ks)
def val0 (vs : List Int) : List Lv → Int
  | [] => 0
  | x :: _ => valR vs x
def val1 (vs : List Int) : List Lv → Int
  | [] => 0
  | _ :: r => val0 vs r
end
theorem valR_num (vs : List Int) (n : Int) (ks : List Lv) : valR vs (.mk 1 n ks) = n := by rw [valR]; rfl
theorem valR_var (vs : List Int) (n : Int) (ks : List Lv) : valR vs (.mk 2 n ks) = vAt vs n.toNat := by rw [valR]; rfl
theorem valR_succ (vs : List Int) (n : Int) (x : Lv) : valR vs (.mk 3 n [x]) = min 1099511627776 (valR vs x + n) := by rw [valR, val0]; rfl
theorem valR_max (vs : List Int) (n : Int) (x y : Lv) : valR vs (.mk 4 n [x, y]) = max (valR vs x) (valR vs y) := by rw [valR, val0, val1, val0]; rfl
theorem valK_le {vs : List Int} {f : Nf} {b : Int} (j : Nat) : valK vs f j ≤ b ↔ f.1 ≤ b ∧ ∀ i : Nat, i < j → 0 ≤ rd f.2 (i : Nat) → min 1099511627776 (vAt vs i + rd f.2 (i : Nat)) ≤ b := by
  induction j with
  | zero => rw [valK]; exact ⟨fun h => ⟨h, fun i hi => by omega⟩, fun h => h.1⟩
  | succ j ih =>
    rw [valK]
    by_cases hn : rd f.2 (j : Nat) < 0
    · rw [if_pos hn, ih]
      refine ⟨fun h => ⟨h.1, fun i hi h0 => ?_⟩, fun h => ⟨h.1, fun i hi => h.2 i (by omega)⟩⟩
      by_cases e : i = j
      · subst e; omega
      · exact h.2 i (by omega) h0
    · rw [if_neg hn]
      constructor
      · intro h
        have h1 := ih.1 (show valK vs f j ≤ b by omega)
        refine ⟨h1.1, fun i hi h0 => ?_⟩
        by_cases e : i = j
        · subst e; omega
        · exact h1.2 i (by omega) h0
      · intro h
        have h1 := ih.2 ⟨h.1, fun i hi => h.2 i (by omega)⟩
        have h2 := h.2 j (by omega) (by omega)
        omega
theorem valN_le {vs : List Int} {f : Nf} {b : Int} : valN vs f ≤ b ↔ f.1 ≤ b ∧ ∀ i : Nat, 0 ≤ atP f.2 i → min 1099511627776 (vAt vs i + atP f.2 i) ≤ b := by
  unfold valN
  rw [valK_le]
  refine and_congr Iff.rfl ⟨fun h i h0 => ?_, fun h i hi h0 => ?_⟩
  · by_cases hi : i < f.2.length
    · rw [atP_lt hi] at h0 ⊢; exact h i hi h0
    · rw [atP_beyond (by omega)] at h0; omega
  · have := h i
    rw [atP_lt hi] at this
    exact this h0
theorem le_ext {x y : Int} (h : ∀ b, x ≤ b ↔ y ≤ b) : x = y := Int.le_antisymm ((h y).2 (Int.le_refl _)) ((h x).1 (Int.le_refl _))
theorem valN_or (vs : List Int) (f g : Nf) : valN vs (orN f g) = max (valN vs f) (valN vs g) := by
  refine le_ext fun b => ?_
  rw [valN_le, or_fst, show max (valN vs f) (valN vs g) ≤ b ↔ valN vs f ≤ b ∧ valN vs g ≤ b by omega, valN_le, valN_le]
  constructor
  · rintro ⟨h1, h2⟩
    refine ⟨⟨by omega, fun i h0 => ?_⟩, ⟨by omega, fun i h0 => ?_⟩⟩
    · have := h2 i; rw [atP_or] at this; have := this (by omega); omega
    · have := h2 i; rw [atP_or] at this; have := this (by omega); omega
  · rintro ⟨⟨h1, h2⟩, ⟨h3, h4⟩⟩
    refine ⟨by omega, fun i h0 => ?_⟩
    rw [atP_or] at h0 ⊢
    have h5 := h2 i
    have h6 := h4 i
    by_cases ha : 0 ≤ atP f.2 i
    · have h5 := h5 ha
      by_cases hb : 0 ≤ atP g.2 i
      · have h6 := h6 hb; omega
      · omega
    · have h6 := h6 (by omega)
      omega
theorem valN_plus (vs : List Int) {f : Nf} {n : Int} (_hf : NfOk f) (h0 : 0 ≤ n) : valN vs (plusN n f) = min 1099511627776 (valN vs f + n) := by
  refine le_ext fun b => ?_
  rw [valN_le, show min 1099511627776 (valN vs f + n) ≤ b ↔ 1099511627776 ≤ b ∨ valN vs f ≤ b - n by omega, valN_le, show (plusN n f).1 = min 1099511627776 (f.1 + n) from rfl]
  have hat : ∀ i : Nat, atP (plusN n f).2 i = addN n (atP f.2 i) := fun i => by
    have hl : (plusN n f).2.length = f.2.length := by simp [plusN]
    by_cases hj : i < f.2.length
    · rw [atP_get (by rw [hl]; exact hj), atP_get hj]; simp [plusN]
    · rw [atP_beyond (by omega), atP_beyond (by omega)]; rfl
  constructor
  · rintro ⟨h1, h2⟩
    by_cases hb : 1099511627776 ≤ b
    · exact .inl hb
    · refine .inr ⟨by omega, fun i hi => ?_⟩
      have h3 := h2 i
      have := vAt_in vs i
      rw [hat] at h3
      unfold addN at h3
      rw [if_pos hi] at h3
      have := h3 (by omega)
      omega
  · intro h
    refine ⟨by omega, fun i hi => ?_⟩
    rw [hat] at hi ⊢
    have := vAt_in vs i
    unfold addN at hi ⊢
    by_cases ha : 0 ≤ atP f.2 i
    · rw [if_pos ha]
      rcases h with h | ⟨h1, h2⟩
      · omega
      · have := h2 i ha; omega
    · rw [if_neg ha] at hi; omega
theorem atP_varN (n j : Nat) : atP (List.replicate n (-1 : Int) ++ [0]) j = if j = n then 0 else -1 := by
  by_cases hj : j < (List.replicate n (-1 : Int) ++ [0]).length
  · rw [atP_get hj]
    by_cases e : j = n
    · subst e; rw [if_pos rfl]; simp
    · rw [if_neg e]
      have : j < n := by simp at hj; omega
      rw [List.getElem_append_left (by simpa using this)]; simp
  · rw [atP_beyond (by omega), if_neg]; simp at hj; omega
theorem valN_sum (vs : List Int) : ∀ {l : Lv}, Good l → valN vs (sumP l) = valR vs l := by
  intro l h
  induction h with
  | @mk k n ks h hk ih =>
    rcases good_cases (.mk h hk) with ⟨rfl, rfl, h0, h1⟩ | ⟨rfl, rfl, h0, h1⟩ | ⟨rfl, x, rfl, h0, h1, hx⟩ | ⟨rfl, x, y, rfl, -, -⟩
    · rw [valR_num]
      show valN vs (ofP [] _) = _
      rw [ofP_num]; rfl
    · rw [valR_var]
      show valN vs (ofP [] _) = _
      rw [ofP_var]
      have hv : varN [] n = (0, List.replicate n.toNat (-1) ++ [0]) := by unfold varN; rw [if_neg (by simp; omega)]
      rw [hv]
      refine le_ext fun b => ?_
      rw [valN_le]
      have hv := vAt_in vs n.toNat
      constructor
      · rintro ⟨h2, h3⟩
        have := h3 n.toNat
        rw [show (0, List.replicate n.toNat (-1 : Int) ++ [0]).2 = List.replicate n.toNat (-1 : Int) ++ [0] from rfl, atP_varN, if_pos rfl] at this
        have := this (by omega)
        omega
      · intro h2
        refine ⟨by simp only []; omega, fun i hi => ?_⟩
        rw [show (0, List.replicate n.toNat (-1 : Int) ++ [0]).2 = List.replicate n.toNat (-1 : Int) ++ [0] from rfl, atP_varN] at hi ⊢
        by_cases e : i = n.toNat
        · subst e; rw [if_pos rfl]; omega
        · rw [if_neg e] at hi; omega
    · rw [valR_succ]
      show valN vs (ofP [] _) = _
      rw [ofP_succ, valN_plus vs (ofP_ok (fun _ h => by cases h) hx) (by omega)]
      rw [← ih x (by simp)]; rfl
    · rw [valR_max]
      show valN vs (ofP [] _) = _
      rw [ofP_max, valN_or, ← ih x (by simp), ← ih y (by simp)]; rfl
/-- What Value tells. -/
def valB (vs : List Int) (l : Lv) : Int := if soundB l = true then valN vs (sumP l) else 0
theorem valB_yes {vs : List Int} {l : Lv} (h : soundB l = true) : valB vs l = valN vs (sumP l) := if_pos h
theorem valB_no {vs : List Int} {l : Lv} (h : soundB l = false) : valB vs l = 0 := if_neg (by rw [h]; decide)
theorem valK_neg {vs : List Int} {f : Nf} {j : Nat} {y : Int} (hy : y = rd f.2 (j : Nat)) (h : y < 0) : valK vs f (j + 1) = valK vs f j := by rw [valK, ← hy, if_pos h]
theorem valK_pos {vs : List Int} {f : Nf} {j : Nat} {y : Int} (hy : y = rd f.2 (j : Nat)) (h : ¬ y < 0) : valK vs f (j + 1) = max (valK vs f j) (min 1099511627776 (vAt vs j + y)) := by rw [valK, ← hy, if_neg h]
theorem vAt_lt {vs : List Int} {i : Nat} (h : i < vs.length) : vAt vs i = min 1099511627776 (max 0 (rd vs (i : Nat))) := if_pos h
theorem vAt_ge {vs : List Int} {i : Nat} (h : ¬ i < vs.length) : vAt vs i = 0 := if_neg h
set_option maxHeartbeats 8000000 in
theorem value_calls (A Av : Option Addr) (c nv cv : Nat) (l : Lv) (vs : List Int) (w : World) (hin : LvIn w w.heap.size A c l) (hv : ReadsInt w .i64 Av nv vs) :
    Calls Try.prog 14 #[lvV A c l, .slice Av nv cv] w fun e w' => e = .returned (.int .i64 (valB vs l)) ∧ Below w.heap.size w w' := by
  have HIN := Aside0.mk hin
  have HV := Aside0.mk hv
  have HVL := Aside0.mk hv.1
  have hnv := hv.2.1
  have hl9 : l.kids.length ≤ 9223372036854775807 := by have := hin.len; omega
  clear hin hv
  unfold lvV
  have HB0 := Aside0.mk (show Below w.heap.size w (w.alloc (.cells #[.int .i64 l.kind, .int .i64 l.num, .slice A l.kids.length c] 24 (0, 0))) from below_alloc (Below.refl _ _) _)
  have HX0 := Aside0.mk (blk_new w (.cells #[.int .i64 l.kind, .int .i64 l.num, .slice A l.kids.length c] 24 (0, 0)))
  go_enter Try.func14, Try.ntmps14
  cases hs : soundB l with
  | false =>
    have HE := Aside0.mk (valB_no (vs := vs) hs)
    have HS := Aside0.mk hs
    clear hs
    go_wp2_with (first
      | (go_at_call 33; go_must (refine (sound_calls A c l _ (LvS.all (HIN.out.stay HB0.out))).mono ?_; rintro e w1 ⟨rfl, hb⟩; rw [HS.out]; have HB1 := Aside0.mk (below_then HB0.out HB0.out.size hb); clear hb)))
    go_ret
    exact ⟨by rw [HE.out]; rfl, HB1.out⟩
  | true =>
    have HE := Aside0.mk (valB_yes (vs := vs) hs)
    have HOK := Aside0.mk (sumP_ok hs)
    have HS := Aside0.mk hs
    clear hs
    go_upto_block 0 with (first
      | (go_at_call 33; go_must (refine (sound_calls A c l _ (LvS.all (HIN.out.stay HB0.out))).mono ?_; rintro e w1 ⟨rfl, hb⟩; rw [HS.out]; have HB1 := Aside0.mk (below_then HB0.out HB0.out.size hb); obtain ⟨p0, p1, p2, -, -, -⟩ := row3 (blk_below HX0.out hb); clear hb))
      | (go_at_call 34; go_must (refine (of_nil_calls l HS.out A c _ (LvS.all (HIN.out.stay HB1.out))).mono ?_; obtain ⟨f, hf⟩ : ∃ f, f = sumP l := ⟨_, rfl⟩; rw [← hf] at HE HOK ⊢; rintro e w2 ⟨A2, n2, c2, rfl, hcap2, hi2, hb⟩; have HI2 := Aside0.mk hi2.1; have HN2 := Aside0.mk hi2.1.1; have HB2 := Aside0.mk (below_then HB1.out HB1.out.size hb); have HBOX := Aside0.mk (blk_new w2 (.cells #[.int .i64 f.1, .slice A2 n2 c2] 52 (0, 0))); clear hb hi2 hcap2 hf)))
    obtain ⟨W, hW⟩ : ∃ W, W = w2.alloc (.cells #[.int .i64 f.1, .slice A2 n2 c2] 52 (0, 0)) := ⟨_, rfl⟩
    have hbw : Below w2.heap.size w2 W := by rw [hW]; exact below_alloc (Below.refl _ _) _
    rw [← hW]
    have HBW := Aside0.mk (below_then HB2.out HB2.out.size hbw)
    have HV' := Aside0.mk (HV.out.below HBW.out)
    have HI' := Aside0.mk (HI2.out.below hbw)
    have hn2 := HI2.out.2.1
    clear hW hbw HBOX HI2 HB2 p0 p1 p2
    go_wp2
    go_loopw [20, 6] (fun i m wr => ∃ (j : Nat), i = .int .i64 j ∧ j ≤ n2 ∧ (∃ x : Int, m = .int .i64 x ∧ Aside0 (x = valK vs f j)) ∧ wr = W) (fun i _ _ => n2 - (intOf i).toNat)
    case atStart => exact ⟨0, rfl, Nat.zero_le _, ⟨_, rfl, ⟨rfl⟩⟩, by first | rfl | trivial⟩
    case round =>
      obtain ⟨j, rfl, hj, ⟨x, rfl, HX⟩, rfl⟩ := hrel
      by_cases hlt : j < n2
      · obtain ⟨ad, rfl, hc⟩ := HI'.out.at_ j (by omega) (by omega)
        rw [Int.toNat_natCast] at hc
        obtain ⟨y, hy⟩ : ∃ y, y = rd f.2 j := ⟨_, rfl⟩
        rw [← hy] at hc
        have HY := Aside0.mk hy
        have hyr : -1 ≤ y ∧ y ≤ 1099511627776 := by
          have := atP_ok HOK.out.2.2.1 j
          rw [atP_lt (by rw [HN2.out]; exact hlt), ← hy] at this
          exact this
        clear hy
        by_cases hy0 : y < 0
        · have HK := Aside0.mk (valK_neg (vs := vs) HY.out hy0)
          go_wp2
          go_roundw
          case rel => exact ⟨j + 1, by go_num, by omega, ⟨_, rfl, ⟨by rw [HK.out]; exact HX.out⟩⟩, by first | rfl | trivial⟩
          case measure => (simp [intOf]; try omega)
        · have HK := Aside0.mk (valK_pos (vs := vs) HY.out hy0)
          by_cases hv : j < nv
          · obtain ⟨ad', rfl, hcv⟩ := HV'.out.at_ j (by omega) (by omega)
            rw [Int.toNat_natCast] at hcv
            have HVA := Aside0.mk (vAt_lt (vs := vs) (i := j) (by rw [HVL.out]; exact hv))
            obtain ⟨z, hz⟩ : ∃ z, z = rd vs j := ⟨_, rfl⟩
            rw [← hz] at hcv HVA
            clear hz
            go_wp2
            go_roundw
            case rel => exact ⟨j + 1, by go_num, by omega, ⟨_, rfl, ⟨by rw [HK.out, HVA.out, ← HX.out]; omega⟩⟩, by first | rfl | trivial⟩
            case measure => (simp [intOf]; try omega)
          · have HVA := Aside0.mk (vAt_ge (vs := vs) (i := j) (by rw [HVL.out]; exact hv))
            go_wp2
            go_roundw
            case rel => exact ⟨j + 1, by go_num, by omega, ⟨_, rfl, ⟨by rw [HK.out, HVA.out, ← HX.out]; omega⟩⟩, by first | rfl | trivial⟩
            case measure => (simp [intOf]; try omega)
      · obtain rfl : j = n2 := by omega
        have hlt' : decide ((j : Int) < j) = false := by simp
        have HF := Aside0.mk (show x = valB vs l by rw [HE.out, HX.out]; unfold valN; rw [HN2.out])
        go_wp2
        go_ret
        exact ⟨by rw [← HF.out]; rfl, HBW.out⟩
end Go.Proofs.Ytjlhbaohippidaa
