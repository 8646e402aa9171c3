/-
  The walks of Sound, slices.Equal and Equal.
-/
import Derived.Test.YtjlhbaohippidaaEqR
import Derived.Test.YtjlhbaohippidaaLvRS
namespace Go.Proofs.Ytjlhbaohippidaa
open Go.RowKit Go.Proofs.YtjlhbaohippidaaW.PrintWords Go.RegionInvYtjlhbaohippidaa Go.RegionEYtjlhbaohippidaa

set_option maxHeartbeats 2000000 in
theorem refSound_calls (A : Option Addr) (c : Nat) (l : Lv) (w : World) (hin : LvIn w w.heap.size A c l) :
    Calls Try.prog 16 #[lvV A c l] w fun e w' => e = .returned (.bool (soundB l)) ∧ Below w.heap.size w w' := by
  have HIN := Aside0.mk hin
  clear hin
  unfold lvV
  go_enter Try.func16, Try.ntmps16
  have hnew : NumAt ((w.alloc (.cells #[.int .i64 l.kind, .int .i64 l.num, .slice A l.kids.length c] 24 (0, 0))).alloc (.cells #[.int .i64 0] 3 (0, 0))) (w.heap.size + 1) 0 := by
    have := blk_new (w.alloc (.cells #[.int .i64 l.kind, .int .i64 l.num, .slice A l.kids.length c] 24 (0, 0))) (.cells #[.int .i64 0] 3 (0, 0))
    simpa [NumAt] using this
  have HNEW := Aside0.mk hnew
  clear hnew
  go_wp2_with (go_at_call 36; go_must (refine (ref_sound _ l (Nat.lt_succ_self _) A c 1 0 (w.heap.size + 1) w.heap.size _ (LvIn.stay HIN.out (below_alloc (below_alloc (Below.refl _ _) _) _)) HNEW.out (Nat.le_succ _) (by decide) (by decide) (by decide) (by decide)).mono ?_; rintro e w1 ⟨rfl, -, hc⟩; have HB := Aside0.mk (two_below hc); clear hc))
  go_ret
  exact ⟨rfl, HB.out⟩
theorem take_next {xs ys : List Int} {j : Nat} (hl : xs.length = ys.length) (hj : j < xs.length) (he : xs.take j = ys.take j) (hr : rd xs j = rd ys j) : xs.take (j + 1) = ys.take (j + 1) := by
  rw [List.take_add_one, List.take_add_one, he]
  congr 1
  simp only [rd_nat', List.getD_eq_getElem?_getD, List.getElem?_eq_getElem hj, List.getElem?_eq_getElem (show j < ys.length by omega), Option.getD_some] at hr
  simp only [List.getElem?_eq_getElem hj, List.getElem?_eq_getElem (show j < ys.length by omega), hr]
theorem take_not {xs ys : List Int} {j : Nat} (hr : rd xs j ≠ rd ys j) : xs ≠ ys := fun e => hr (by rw [e])
set_option maxHeartbeats 4000000 in
theorem sEqual_calls (A B : Option Addr) (n m cap cap' : Nat) (xs ys : List Int) (w : World) (hx : ReadsInt w .i64 A n xs) (hy : ReadsInt w .i64 B m ys) :
    Calls Try.prog 39 #[.slice A n cap, .slice B m cap'] w fun e w' => e = .returned (.bool (decide (xs = ys))) ∧ Below w.heap.size w w' := by
  have HX := Aside0.mk hx
  have HY := Aside0.mk hy
  have hn9 := hx.2.1
  have hm9 := hy.2.1
  have HN := Aside0.mk hx.1
  have HM := Aside0.mk hy.1
  clear hx hy
  go_enter Try.func39, Try.ntmps39
  by_cases hnm : n = m
  · subst hnm
    have hb : ((n : Int) != (n : Int)) = false := by simp
    go_wp2
    go_loopw [13] (fun i wr => ∃ (j : Nat), i = .int .i64 j ∧ j ≤ n ∧ Aside0 (xs.take j = ys.take j) ∧ Aside0 (Below w.heap.size w wr)) (fun i _ => n - (intOf i).toNat)
    case atStart => exact ⟨0, rfl, Nat.zero_le _, ⟨rfl⟩, ⟨Below.refl _ _⟩⟩
    case round =>
      obtain ⟨j, rfl, hj, HE, HB⟩ := hrel
      by_cases hlt : j < n
      · obtain ⟨ad, rfl, hcx⟩ := (HX.out.below HB.out).at_ j (by omega) (by omega)
        obtain ⟨ad', rfl, hcy⟩ := (HY.out.below HB.out).at_ j (by omega) (by omega)
        rw [Int.toNat_natCast] at hcx hcy
        obtain ⟨x, hxv⟩ : ∃ x, x = rd xs j := ⟨_, rfl⟩
        obtain ⟨y, hyv⟩ : ∃ y, y = rd ys j := ⟨_, rfl⟩
        rw [← hxv] at hcx
        rw [← hyv] at hcy
        have HXV := Aside0.mk hxv
        have HYV := Aside0.mk hyv
        clear hxv hyv
        by_cases hxy : x = y
        · have hbb : (x != y) = false := by simp [hxy]
          have HE' := Aside0.mk (take_next (by rw [HN.out, HM.out]) (by rw [HN.out]; exact hlt) HE.out (by rw [← HXV.out, ← HYV.out, hxy]))
          clear hxy
          go_upto_region 6 with (fail)
          go_region_law (fail)
          all_goals go_wp2
          all_goals exact ⟨⟨j + 1, by go_num, by omega, HE', ⟨below_drew HB.out⟩⟩, by simp [intOf]; omega⟩
        · have hbb : (x != y) = true := by simp [hxy]
          have HF := Aside0.mk (show decide (xs = ys) = false from decide_eq_false (take_not (j := j) (by rw [← HXV.out, ← HYV.out]; exact hxy)))
          clear hxy
          go_upto_region 6 with (fail)
          go_region_law (fail)
          all_goals go_wp2
          all_goals go_ret
          all_goals exact ⟨by rw [HF.out]; rfl, by repeat' first | exact HB.out | apply below_drew⟩
      · obtain rfl : j = n := by omega
        have hlt' : decide ((j : Int) < j) = false := by simp
        have HF := Aside0.mk (show decide (xs = ys) = true from decide_eq_true (by have := HE.out; rwa [List.take_of_length_le (by rw [HN.out]; exact Nat.le_refl _), List.take_of_length_le (by rw [HM.out]; exact Nat.le_refl _)] at this))
        go_wp2
        go_ret
        exact ⟨by rw [HF.out]; rfl, HB.out⟩
  · have hb : ((n : Int) != (m : Int)) = true := by simp; omega
    have HF := Aside0.mk (show decide (xs = ys) = false from decide_eq_false fun e => hnm (by rw [← HN.out, ← HM.out, e]))
    go_wp2
    go_ret
    exact ⟨by rw [HF.out]; rfl, Below.refl _ _⟩
/-- Equal's answer. -/
def eqP (a b : Lv) : Bool := soundB a && soundB b && decide (shortN (sumP a) = shortN (sumP b))
theorem eqP_1 {a b : Lv} (h : soundB a = false) : eqP a b = false := by unfold eqP; rw [h]; rfl
theorem eqP_2 {a b : Lv} (h : soundB b = false) : eqP a b = false := by unfold eqP; rw [h]; cases soundB a <;> rfl
theorem eqP_3 {a b : Lv} (ha : soundB a = true) (hb : soundB b = true) : eqP a b = decide (shortN (sumP a) = shortN (sumP b)) := by unfold eqP; rw [ha, hb]; rfl
theorem pair_dec {f h : Nf} : decide (f = h) = (f.1 == h.1 && decide (f.2 = h.2)) := by
  cases f; cases h
  simp [Prod.mk.injEq, Bool.decide_and]
  rfl
abbrev bx2 (w : World) (A B : Option Addr) (c c' : Nat) (a b : Lv) : World := (w.alloc (.cells #[.int .i64 a.kind, .int .i64 a.num, .slice A a.kids.length c] 24 (0, 0))).alloc (.cells #[.int .i64 b.kind, .int .i64 b.num, .slice B b.kids.length c'] 24 (0, 0))
set_option maxHeartbeats 4000000 in
theorem equal_calls (A B : Option Addr) (c c' : Nat) (a b : Lv) (w : World) (ha : LvIn w w.heap.size A c a) (hb : LvIn w w.heap.size B c' b) :
    Calls Try.prog 18 #[lvV A c a, lvV B c' b] w fun e w' => e = .returned (.bool (eqP a b)) ∧ Below w.heap.size w w' := by
  have HA := Aside0.mk ha
  have HB := Aside0.mk hb
  have hla : a.kids.length ≤ 9223372036854775807 := by have := ha.len; omega
  have hlb : b.kids.length ≤ 9223372036854775807 := by have := hb.len; omega
  have HW := Aside0.mk (show Below w.heap.size w (bx2 w A B c c' a b) from below_alloc (below_alloc (Below.refl _ _) _) _)
  have HX := Aside0.mk (show (bx2 w A B c c' a b).heap[w.heap.size]? = some (.cells #[.int .i64 a.kind, .int .i64 a.num, .slice A a.kids.length c] 24 (0, 0)) from box0 w _ _)
  have HY := Aside0.mk (show (bx2 w A B c c' a b).heap[w.heap.size + 1]? = some (.cells #[.int .i64 b.kind, .int .i64 b.num, .slice B b.kids.length c'] 24 (0, 0)) from box1 w _ _)
  clear ha hb
  cases hsa : soundB a with
  | false =>
    have HE := Aside0.mk (eqP_1 (b := b) hsa)
    have HS := Aside0.mk hsa
    clear hsa
    unfold lvV
    go_enter Try.func18, Try.ntmps18
    go_wp2_with (first
      | (go_at_call 33; go_must (refine (sound_calls A c a _ (LvS.all (HA.out.stay HW.out))).mono ?_; rintro e w1 ⟨rfl, hb⟩; rw [HS.out]; have HB1 := Aside0.mk (below_then HW.out HW.out.size hb); clear hb)))
    go_ret
    exact ⟨by rw [HE.out]; rfl, HB1.out⟩
  | true =>
    have HSA := Aside0.mk hsa
    cases hsb : soundB b with
    | false =>
      have HE := Aside0.mk (eqP_2 (a := a) hsb)
      have HSB := Aside0.mk hsb
      clear hsa hsb
      unfold lvV
      go_enter Try.func18, Try.ntmps18
      go_wp2_with (first
        | (have hg := HB1; clear hg; go_at_call 33; go_must (refine (sound_calls B c' b w1 (LvS.all (HB.out.stay HB1.out))).mono ?_; rintro e w2 ⟨rfl, hb⟩; rw [HSB.out]; have HB2 := Aside0.mk (below_then HB1.out HB1.out.size hb); clear hb))
        | (go_at_call 33; go_must (refine (sound_calls A c a (bx2 w A B c c' a b) (LvS.all (HA.out.stay HW.out))).mono ?_; rintro e w1 ⟨rfl, hb⟩; rw [HSA.out]; have HB1 := Aside0.mk (below_then HW.out HW.out.size hb); obtain ⟨p0, p1, p2, -, -, -⟩ := row3 (blk_below HY.out hb); clear hb)))
      go_ret
      exact ⟨by rw [HE.out]; rfl, HB2.out⟩
    | true =>
      have HE := Aside0.mk ((eqP_3 hsa hsb).trans pair_dec)
      have HSB := Aside0.mk hsb
      clear hsa hsb
      unfold lvV
      go_enter Try.func18, Try.ntmps18
      go_upto_region 3 with (first
        | (have hg := HB1; clear hg; go_at_call 33; go_must (refine (sound_calls B c' b w1 (LvS.all (HB.out.stay HB1.out))).mono ?_; rintro e w2 ⟨rfl, hb⟩; rw [HSB.out]; have HB2 := Aside0.mk (below_then HB1.out HB1.out.size hb); have HX2 := Aside0.mk (blk_below HX1.out hb); have HY2 := Aside0.mk (blk_below HY1.out hb); clear hb))
        | (go_at_call 33; go_must (refine (sound_calls A c a (bx2 w A B c c' a b) (LvS.all (HA.out.stay HW.out))).mono ?_; rintro e w1 ⟨rfl, hb⟩; rw [HSA.out]; have HB1 := Aside0.mk (below_then HW.out HW.out.size hb); have HX1 := Aside0.mk (blk_below HX.out hb); have HY1 := Aside0.mk (blk_below HY.out hb); obtain ⟨p0, p1, p2, -, -, -⟩ := row3 (blk_below HY.out hb); clear hb)))
      refine eq_region w2 w.heap.size A B c c' a b HX2.out HY2.out (HA.out.stay HB2.out) (HB.out.stay HB2.out) HSA.out HSB.out ?_
      rintro w' u5 u6 u16 u17 u19 u20 v8 O8 v9 O9 hch ⟨p, rfl, hf⟩ - ⟨q, rfl, hg⟩ -
      have hb' : Below w2.heap.size w2 w' := hch.below (fun _ h => h.elim False.elim False.elim) (Nat.le_refl _)
      have HB' := Aside0.mk (below_then HB2.out HB2.out.size hb')
      obtain ⟨A1, n1, c1, hx1, -, hc1, hi1⟩ := hf
      obtain ⟨A2, n2, c2, hx2, -, hc2, hi2⟩ := hg
      obtain ⟨d0, d1, -, -⟩ := row2 hx1
      obtain ⟨e0, e1, -, -⟩ := row2 hx2
      obtain ⟨f, hf⟩ : ∃ f, f = shortN (sumP a) := ⟨_, rfl⟩
      obtain ⟨h, hh⟩ : ∃ h, h = shortN (sumP b) := ⟨_, rfl⟩
      rw [← hf] at d0 hi1 HE
      rw [← hh] at e0 hi2 HE
      have HI1 := Aside0.mk hi1.1
      have HI2 := Aside0.mk hi2.1
      clear hch hx1 hx2 hc1 hc2 hi1 hi2 hf hh hb'
      by_cases hff : f.1 = h.1
      · have hb1 : (f.1 == h.1) = true := by simp [hff]
        have HE := Aside0.mk (HE.out.trans (by rw [hb1, Bool.true_and]))
        clear hff
        go_wp2_with (go_at_call 39; go_must (refine (sEqual_calls A1 A2 n1 n2 c1 c2 f.2 h.2 w' HI1.out HI2.out).mono ?_; rintro e w3 ⟨rfl, hb⟩; rw [← HE.out]; have HB3 := Aside0.mk (below_then HB'.out HB'.out.size hb); clear hb))
        go_ret
        exact ⟨rfl, HB3.out⟩
      · have hb1 : (f.1 == h.1) = false := by simp [hff]
        have HE := Aside0.mk (HE.out.trans (by rw [hb1, Bool.false_and]))
        clear hff
        go_wp2
        go_ret
        exact ⟨by rw [HE.out]; rfl, HB'.out⟩
end Go.Proofs.Ytjlhbaohippidaa
