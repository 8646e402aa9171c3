/-
  The walk of Leq.
-/
import Derived.Test.YtjlhbaohippidaaOpsL
namespace Go.Proofs.Ytjlhbaohippidaa
open Go.RowKit Go.Proofs.YtjlhbaohippidaaW.PrintWords Go.RegionInvYtjlhbaohippidaa Go.RegionEYtjlhbaohippidaa

def leastN (n : Nf) : Int := n.2.foldl max n.1
def leqK (ms ns : List Int) (j : Nat) : Bool := (List.range j).all fun i => decide (rd ms (i : Nat) ≤ atP ns (i : Nat))
def leqN (m n : Nf) : Bool := leqK m.2 n.2 m.2.length && decide (m.1 ≤ leastN n)
def leqP (a b : Lv) : Bool := soundB a && soundB b && leqN (shortN (sumP a)) (shortN (sumP b))
theorem leqP_1 {a b : Lv} (h : soundB a = false) : leqP a b = false := by unfold leqP; rw [h]; rfl
theorem leqP_2 {a b : Lv} (h : soundB b = false) : leqP a b = false := by unfold leqP; rw [h]; cases soundB a <;> rfl
theorem leqP_3 {a b : Lv} (ha : soundB a = true) (hb : soundB b = true) : leqP a b = leqN (shortN (sumP a)) (shortN (sumP b)) := by unfold leqP; rw [ha, hb]; rfl
theorem leqK_succ (ms ns : List Int) (j : Nat) : leqK ms ns (j + 1) = (leqK ms ns j && decide (rd ms (j : Nat) ≤ atP ns (j : Nat))) := by
  unfold leqK; rw [List.range_succ, List.all_append]; simp
theorem leqK_down {ms ns : List Int} {j n : Nat} (hj : j < n) (h : ¬ rd ms (j : Nat) ≤ atP ns (j : Nat)) : leqK ms ns n = false := by
  unfold leqK
  rw [List.all_eq_false]
  exact ⟨j, List.mem_range.2 hj, by simpa using h⟩
theorem fold_take {c : Int} {ks : List Int} {j : Nat} (hlt : j < ks.length) : (ks.take (j + 1)).foldl max c = max ((ks.take j).foldl max c) (rd ks (j : Nat)) := by
  rw [List.take_add_one, List.getElem?_eq_getElem hlt, List.foldl_append]
  simp [rd, hlt]
set_option maxHeartbeats 4000000 in
theorem leq_calls (A B : Option Addr) (c c' : Nat) (a b : Lv) (w : World) (ha : LvIn w w.heap.size A c a) (hb : LvIn w w.heap.size B c' b) :
    Calls Try.prog 21 #[lvV A c a, lvV B c' b] w fun e w' => e = .returned (.bool (leqP a b)) ∧ Below w.heap.size w w' := by
  have HA := Aside0.mk ha
  have HB := Aside0.mk hb
  have hla : a.kids.length ≤ 9223372036854775807 := by have := ha.len; omega
  have hlb : b.kids.length ≤ 9223372036854775807 := by have := hb.len; omega
  have HW := Aside0.mk (show Below w.heap.size w (bx2 w A B c c' a b) from below_alloc (below_alloc (Below.refl _ _) _) _)
  have HX := Aside0.mk (show (bx2 w A B c c' a b).heap[w.heap.size]? = some (.cells #[.int .i64 a.kind, .int .i64 a.num, .slice A a.kids.length c] 24 (0, 0)) from box0 w _ _)
  have HY := Aside0.mk (show (bx2 w A B c c' a b).heap[w.heap.size + 1]? = some (.cells #[.int .i64 b.kind, .int .i64 b.num, .slice B b.kids.length c'] 24 (0, 0)) from box1 w _ _)
  clear ha hb
  cases hsa : soundB a with
  | false =>
    have HE := Aside0.mk (leqP_1 (b := b) hsa)
    have HS := Aside0.mk hsa
    clear hsa
    unfold lvV
    go_enter Try.func21, Try.ntmps21
    go_wp2_with (first
      | (go_at_call 33; go_must (refine (sound_calls A c a _ (LvS.all (HA.out.stay HW.out))).mono ?_; rintro e w1 ⟨rfl, hb⟩; rw [HS.out]; have HB1 := Aside0.mk (below_then HW.out HW.out.size hb); clear hb)))
    go_ret
    exact ⟨by rw [HE.out]; rfl, HB1.out⟩
  | true =>
    have HSA := Aside0.mk hsa
    cases hsb : soundB b with
    | false =>
      have HE := Aside0.mk (leqP_2 (a := a) hsb)
      have HSB := Aside0.mk hsb
      clear hsa hsb
      unfold lvV
      go_enter Try.func21, Try.ntmps21
      go_wp2_with (first
        | (have hg := HB1; clear hg; go_at_call 33; go_must (refine (sound_calls B c' b w1 (LvS.all (HB.out.stay HB1.out))).mono ?_; rintro e w2 ⟨rfl, hb⟩; rw [HSB.out]; have HB2 := Aside0.mk (below_then HB1.out HB1.out.size hb); clear hb))
        | (go_at_call 33; go_must (refine (sound_calls A c a (bx2 w A B c c' a b) (LvS.all (HA.out.stay HW.out))).mono ?_; rintro e w1 ⟨rfl, hb⟩; rw [HSA.out]; have HB1 := Aside0.mk (below_then HW.out HW.out.size hb); obtain ⟨p0, p1, p2, -, -, -⟩ := row3 (blk_below HY.out hb); clear hb)))
      go_ret
      exact ⟨by rw [HE.out]; rfl, HB2.out⟩
    | true =>
      have HE := Aside0.mk (leqP_3 hsa hsb)
      have HSB := Aside0.mk hsb
      clear hsa hsb
      unfold lvV
      go_enter Try.func21, Try.ntmps21
      go_upto_region 3 with (first
        | (have hg := HB1; clear hg; go_at_call 33; go_must (refine (sound_calls B c' b w1 (LvS.all (HB.out.stay HB1.out))).mono ?_; rintro e w2 ⟨rfl, hb⟩; rw [HSB.out]; have HB2 := Aside0.mk (below_then HB1.out HB1.out.size hb); have HX2 := Aside0.mk (blk_below HX1.out hb); have HY2 := Aside0.mk (blk_below HY1.out hb); clear hb))
        | (go_at_call 33; go_must (refine (sound_calls A c a (bx2 w A B c c' a b) (LvS.all (HA.out.stay HW.out))).mono ?_; rintro e w1 ⟨rfl, hb⟩; rw [HSA.out]; have HB1 := Aside0.mk (below_then HW.out HW.out.size hb); have HX1 := Aside0.mk (blk_below HX.out hb); have HY1 := Aside0.mk (blk_below HY.out hb); obtain ⟨p0, p1, p2, -, -, -⟩ := row3 (blk_below HY.out hb); clear hb)))
      refine le_region w2 w.heap.size A B c c' a b HX2.out HY2.out (HA.out.stay HB2.out) (HB.out.stay HB2.out) HSA.out HSB.out ?_
      rintro w' u5 u6 u21 u22 u24 u25 v8 O8 v9 O9 hch ⟨p, rfl, hf⟩ - ⟨q, rfl, hg⟩ -
      have hb' : Below w2.heap.size w2 w' := hch.below (fun _ h => h.elim False.elim False.elim) (Nat.le_refl _)
      have HB' := Aside0.mk (below_then HB2.out HB2.out.size hb')
      obtain ⟨A1, n1, c1, hx1, -, hc1, hi1⟩ := hf
      obtain ⟨A2, n2, c2, hx2, -, hc2, hi2⟩ := hg
      obtain ⟨d0, d1, -, -⟩ := row2 hx1
      obtain ⟨e0, e1, -, -⟩ := row2 hx2
      obtain ⟨f, hf⟩ : ∃ f, f = shortN (sumP a) := ⟨_, rfl⟩
      obtain ⟨h, hh⟩ : ∃ h, h = shortN (sumP b) := ⟨_, rfl⟩
      rw [← hf] at d0 hi1 HE hx1
      rw [← hh] at e0 hi2 HE hx2
      have HX' := Aside0.mk hx1
      have HY' := Aside0.mk hx2
      have HI1 := Aside0.mk hi1.1
      have HI2 := Aside0.mk hi2.1
      have HN1 := Aside0.mk hi1.1.1
      have HN2 := Aside0.mk hi2.1.1
      have hn1 := hi1.1.2.1
      have hn2 := hi2.1.2.1
      clear hch hx1 hx2 hc1 hc2 hi1 hi2 hf hh hb'
      go_upto_block 0 with (fail)
      go_cut [7] (fun v wr => v = .int .i64 (leastN h) ∧ Aside0 (Below w'.heap.size w' wr))
      case first =>
        go_wp2
        go_loopw [31, 7] (fun i m wr => ∃ (j : Nat), i = .int .i64 j ∧ j ≤ n2 ∧ (∃ x : Int, m = .int .i64 x ∧ Aside0 (x = (h.2.take j).foldl max h.1)) ∧ wr = w') (fun i _ _ => n2 - (intOf i).toNat)
        case atStart => exact ⟨0, rfl, Nat.zero_le _, ⟨_, rfl, ⟨by simp⟩⟩, by first | rfl | trivial⟩
        case round =>
          obtain ⟨j, rfl, hj, ⟨x, rfl, HXX⟩, rfl⟩ := hrel
          by_cases hlt : j < n2
          · obtain ⟨ad, rfl, hcx⟩ := HI2.out.at_ j (by omega) (by omega)
            rw [Int.toNat_natCast] at hcx
            have H2 := Aside0.mk (fold_take (c := h.1) (ks := h.2) (j := j) (by rw [HN2.out]; exact hlt))
            obtain ⟨y, hy⟩ : ∃ y, y = rd h.2 j := ⟨_, rfl⟩
            rw [← hy] at hcx H2
            clear hy
            go_wp2
            go_roundw
            case rel => exact ⟨j + 1, by go_num, by omega, ⟨_, rfl, ⟨by rw [H2.out, ← HXX.out]; omega⟩⟩, by first | rfl | trivial⟩
            case measure => (simp [intOf]; try omega)
          · obtain rfl : j = n2 := by omega
            have hlt' : decide ((j : Int) < j) = false := by simp
            have HL := Aside0.mk (show x = leastN h by rw [HXX.out, List.take_of_length_le (by rw [HN2.out]; exact Nat.le_refl _)]; rfl)
            go_wp2
            go_meet
            case rel => exact ⟨by rw [HL.out], ⟨Below.refl _ _⟩⟩
      case rest =>
        obtain ⟨rfl, HWR⟩ := hcut
        have HBW := Aside0.mk (below_then HB'.out HB'.out.size HWR.out)
        have HX2' := Aside0.mk (blk_below HX'.out HWR.out)
        have HY2' := Aside0.mk (blk_below HY'.out HWR.out)
        have HI1' := Aside0.mk (HI1.out.below HWR.out)
        have HI2' := Aside0.mk (HI2.out.below HWR.out)
        clear d0 d1 e0 e1
        obtain ⟨d0, d1, -, -⟩ := row2 HX2'.out
        go_wp2
        go_loopw [42] (fun i wq => ∃ (j : Nat), i = .int .i64 j ∧ j ≤ n1 ∧ Aside0 (leqK f.2 h.2 j = true) ∧ Aside0 (Below wc.heap.size wc wq)) (fun i _ => n1 - (intOf i).toNat)
        case atStart => exact ⟨0, rfl, Nat.zero_le _, ⟨rfl⟩, ⟨Below.refl _ _⟩⟩
        case round =>
          obtain ⟨j, rfl, hj, HK, HQ⟩ := hrel
          have HX3 := Aside0.mk (blk_below HX2'.out HQ.out)
          have HY3 := Aside0.mk (blk_below HY2'.out HQ.out)
          have HI2q := Aside0.mk (HI2'.out.below HQ.out)
          have HBQ := Aside0.mk (below_then HBW.out HBW.out.size HQ.out)
          clear d0 d1
          obtain ⟨d0, d1, -, -⟩ := row2 HX3.out
          obtain ⟨e0, e1, -, -⟩ := row2 HY3.out
          by_cases hlt : j < n1
          · obtain ⟨ad, rfl, hcx⟩ := (HI1'.out.below HQ.out).at_ j (by omega) (by omega)
            rw [Int.toNat_natCast] at hcx
            obtain ⟨y, hy⟩ : ∃ y, y = rd f.2 j := ⟨_, rfl⟩
            rw [← hy] at hcx
            have HYV := Aside0.mk hy
            obtain ⟨z, hz⟩ : ∃ z, z = atP h.2 j := ⟨_, rfl⟩
            have HZV := Aside0.mk hz
            clear hy hz
            by_cases hyz : z < y
            · have HF := Aside0.mk (show leqP a b = false by
                rw [HE.out]
                unfold leqN
                rw [leqK_down (j := j) (by rw [HN1.out]; exact hlt) (by rw [← HYV.out, ← HZV.out]; omega)]; rfl)
              go_wp2_with (go_at_call 40; go_must (refine (at_calls A2 n2 c2 h.1 h.2 j _ HI2q.out (by omega)).mono ?_; rw [← HZV.out]; rintro e w9 ⟨rfl, hb⟩; have HB9 := Aside0.mk (below_then HBQ.out HBQ.out.size hb); clear hb))
              go_ret
              exact ⟨by rw [HF.out]; rfl, HB9.out⟩
            · have HK' := Aside0.mk (show leqK f.2 h.2 (j + 1) = true by
                rw [leqK_succ, HK.out, ← HYV.out, ← HZV.out, Bool.true_and]; exact decide_eq_true (by omega))
              go_wp2_with (go_at_call 40; go_must (refine (at_calls A2 n2 c2 h.1 h.2 j _ HI2q.out (by omega)).mono ?_; rw [← HZV.out]; rintro e w9 ⟨rfl, hb⟩; have HB9 := Aside0.mk (below_then HQ.out HQ.out.size hb); clear hb))
              go_roundw
              case rel => exact ⟨j + 1, by go_num, by omega, HK', HB9⟩
              case measure => (simp [intOf]; try omega)
          · obtain rfl : j = n1 := by omega
            have hlt' : decide ((j : Int) < j) = false := by simp
            have HF := Aside0.mk (show leqP a b = decide (f.1 ≤ leastN h) by
              rw [HE.out]
              unfold leqN
              rw [HN1.out, HK.out, Bool.true_and])
            go_wp2
            go_ret
            exact ⟨by rw [HF.out]; rfl, HBQ.out⟩
end Go.Proofs.Ytjlhbaohippidaa
