/-
  The walks of May, and of the reference's.
-/
import Derived.Test.YtjlhbaohippidaaMay
import Derived.Test.YtjlhbaohippidaaLvRS
namespace Go.Proofs.Ytjlhbaohippidaa
open Go.RowKit Go.Proofs.YtjlhbaohippidaaW.PrintWords Go.RegionInvYtjlhbaohippidaa

/-- What May tells. -/
def mayB (v : Int) (l : Lv) : Int := (walkP (mayF v) l 1 0).1
set_option maxHeartbeats 4000000 in
theorem may_calls (A : Option Addr) (c : Nat) (l : Lv) (v : Int) (w : World) (hin : LvIn w w.heap.size A c l) :
    Calls Try.prog 11 #[lvV A c l, .int .i64 v] w fun e w' => e = .returned (.int .i64 (mayB v l)) ∧ Below w.heap.size w w' := by
  have HIN := Aside0.mk hin
  clear hin
  unfold lvV
  go_enter Try.func11, Try.ntmps11
  obtain ⟨w3, hw3⟩ : ∃ w3, w3 = (((w.alloc (.cells #[.int .i64 l.kind, .int .i64 l.num, .slice A l.kids.length c] 24 (0, 0))).alloc (.cells #[.int .i64 v] 3 (0, 0))).alloc (.cells #[.int .i64 0] 3 (0, 0))) := ⟨_, rfl⟩
  have hnew : NumAt w3 (w.heap.size + 1 + 1) 0 := by
    have := blk_new ((w.alloc (.cells #[.int .i64 l.kind, .int .i64 l.num, .slice A l.kids.length c] 24 (0, 0))).alloc (.cells #[.int .i64 v] 3 (0, 0))) (.cells #[.int .i64 0] 3 (0, 0))
    rw [hw3]
    simpa [NumAt] using this
  have hvar : NumAt w3 (w.heap.size + 1) v := by
    have := blk_alloc (blk_new (w.alloc (.cells #[.int .i64 l.kind, .int .i64 l.num, .slice A l.kids.length c] 24 (0, 0))) (.cells #[.int .i64 v] 3 (0, 0))) (.cells #[.int .i64 0] 3 (0, 0))
    rw [hw3]
    simpa [NumAt] using this
  have hb3 : Below w.heap.size w w3 := by rw [hw3]; exact below_alloc (below_alloc (below_alloc (Below.refl _ _) _) _) _
  have HNEW := Aside0.mk hnew
  have HVAR := Aside0.mk hvar
  have HB3 := Aside0.mk hb3
  have HW3 := Aside0.mk hw3
  clear hnew hvar hb3 hw3
  go_wp2_with (go_at_call 27; go_must (rw [← HW3.out]; refine (walk_may v (w.heap.size + 1) _ l (Nat.lt_succ_self _) A c 1 0 (w.heap.size + 1 + 1) w.heap.size _ (LvIn.stay HIN.out HB3.out) HNEW.out HVAR.out (by omega) (by omega) (by decide) (by decide) (by decide) (by decide)).mono ?_; rintro e w1 ⟨rfl, -, hc⟩; have HB := Aside0.mk (Chg.trans_below HB3.out hc (fun _ e => by omega) HB3.out.size); clear hc))
  go_ret
  exact ⟨rfl, HB.out⟩
theorem may_bad {v : Int} {l : Lv} {d s : Int} {e : Int} (h : mayF v l d s = (e, s + 1)) (he : e ≠ 0) : walkP (mayF v) l d s = (e, s + 1) := by rw [walkP_stop (by rw [h]; exact he), h]
set_option maxRecDepth 4000 in
set_option maxHeartbeats 8000000 in
theorem ref_may (v : Int) (N : Nat) : ∀ (l : Lv), SizeOf.sizeOf l < N → ∀ (A : Option Addr) (c : Nat) (d s : Int) (g B : Nat) (w : World), LvIn w B A c l → NumAt w g s → B ≤ g → 0 ≤ s → s ≤ 100 → 0 ≤ d → d ≤ 33 →
    Calls Try.prog 30 #[lvV A c l, .int .i64 v, .int .i64 d, .pointer (some ⟨g, 0, none⟩)] w (VisitPost w g (walkP (mayF v) l d s)) := by
  induction N with
  | zero => intro l h; omega
  | succ N ih =>
    rintro ⟨lk, ln, ks⟩ hN A c d s g B w hin hg hBg hs0 hs1 hd0 hd1
    have IH := Aside0.mk ih
    have HIN := Aside0.mk hin
    have HG := Aside0.mk hg
    have hcell := hg.cell
    have hfz := blk_frozen hg 0
    have hlen := hin.len
    simp only [Lv.kids] at hlen
    have hl9 : ks.length ≤ 9223372036854775807 := by omega
    have hglt := blk_lt hg
    have hgne : g ≠ w.heap.size := Nat.ne_of_lt hglt
    clear ih hin hg hlen
    unfold lvV
    simp only [Lv.kind, Lv.num, Lv.kids]
    obtain ⟨m, hm⟩ : ∃ m, m = ks.length := ⟨_, rfl⟩
    rw [← hm] at hl9 ⊢
    have HM := Aside0.mk hm
    clear hm
    have hfin : NumAt ((w.setCell ⟨g, 0, none⟩ (.int .i64 (s + 1))).alloc (.cells #[.int .i64 lk, .int .i64 ln, .slice A m c] 24 (0, 0))) g (s + 1) := (HG.out.set _).alloc _
    have hch : Chg (fun k => k = g) w ((w.setCell ⟨g, 0, none⟩ (.int .i64 (s + 1))).alloc (.cells #[.int .i64 lk, .int .i64 ln, .slice A m c] 24 (0, 0))) := chg_trans (chg_set _ _ _ _) (chg_alloc _ _ _)
    have HF := Aside0.mk (And.intro hfin hch)
    have hc2 := hfin.cell
    clear hfin hch
    go_enter Try.func30, Try.ntmps30
    by_cases h1 : 32 < d
    · have hw := Aside0.mk (may_bad (mayF_long (v := v) (l := .mk lk ln ks) (s := s) (.inl h1)) (by decide))
      go_wp2
      go_ret
      rw [hw.out]
      exact ⟨rfl, HF.out.1, HF.out.2⟩
    · by_cases h2 : 100 < s + 1
      · have hw := Aside0.mk (may_bad (mayF_long (v := v) (l := .mk lk ln ks) (d := d) (.inr h2)) (by decide))
        go_wp2
        go_ret
        rw [hw.out]
        exact ⟨rfl, HF.out.1, HF.out.2⟩
      · by_cases h3 : (m : Int) = arityP lk
        · have h3' : ((m : Int) != arityP lk) = false := by simp [h3]
          have h3n : 0 ≤ arityP lk := by omega
          have HAR := Aside0.mk h3
          clear h3
          go_upto_block 0 with (fail)
          go_cut [] (fun w2 => Aside0 (mayF v (.mk lk ln ks) d s = (0, s + 1)) ∧ Aside0 (NumAt w2 g (s + 1)) ∧ Aside0 (Chg (fun k => k = g) w w2) ∧ w2.cell? ⟨w.heap.size, 2, none⟩ = some (.slice A m c))
          case first =>
            have hbx : ((w.setCell ⟨g, 0, none⟩ (.int .i64 (s + 1))).alloc (.cells #[.int .i64 lk, .int .i64 ln, .slice A m c] 24 (0, 0))).cell? ⟨w.heap.size, 2, none⟩ = some (.slice A m c) := by
              have := box_cell (w.setCell ⟨g, 0, none⟩ (.int .i64 (s + 1))) #[.int .i64 lk, .int .i64 ln, .slice A m c] 24 2 (.slice A m c) rfl
              rwa [show (w.setCell ⟨g, 0, none⟩ (.int .i64 (s + 1))).heap.size = w.heap.size by simp [World.setCell]] at this
            have HBX := Aside0.mk hbx
            clear hbx
            by_cases k1 : lk = 1
            · have e1 : (lk == 1) = true := by simp [k1]
              have e2 : (lk == 2) = false := by simp [k1]
              have e3 : (lk == 3) = false := by simp [k1]
              have HR := Aside0.mk (mayF_rest (v := v) (l := .mk lk ln ks) (d := d) (s := s) (by omega) (fun h => by have := h.1; simp only [Lv.kind] at this; omega))
              have HRR := Aside0.mk (show rightP (.mk lk ln ks) 1048576 0 = decide (0 ≤ ln ∧ ln ≤ 1048576) by rw [k1]; exact right_num (by rw [← HM.out, HAR.out, k1]))
              clear k1
              by_cases q0 : ln < 0
              · have hw := Aside0.mk (may_bad (HR.out.trans (if_pos (by rw [HRR.out]; exact decide_eq_false (by omega)))) (by decide))
                go_upto_region 4 with (fail)
                go_quiet ((go_at_call 49; exact Calls.quiet_of_same (arity_calls _ _)))
                go_wp2
                go_ret
                rw [hw.out]
                exact ⟨rfl, HF.out.1, chg_drewN HF.out.2 _⟩
              · by_cases q1 : 1048576 < ln
                · have hw := Aside0.mk (may_bad (HR.out.trans (if_pos (by rw [HRR.out]; exact decide_eq_false (by omega)))) (by decide))
                  go_upto_region 4 with (fail)
                  go_quiet ((go_at_call 49; exact Calls.quiet_of_same (arity_calls _ _)))
                  go_wp2
                  go_ret
                  rw [hw.out]
                  exact ⟨rfl, HF.out.1, chg_drewN HF.out.2 _⟩
                · have HOK := Aside0.mk (HR.out.trans (if_neg (by rw [HRR.out, decide_eq_true (by omega)]; decide)))
                  go_upto_region 4 with (fail)
                  go_quiet ((go_at_call 49; exact Calls.quiet_of_same (arity_calls _ _)))
                  go_wp2
                  go_meet
                  case rel => exact ⟨HOK, ⟨HF.out.1⟩, ⟨chg_drewN HF.out.2 _⟩, HBX.out⟩
            · have e1 : (lk == 1) = false := by simp [k1]
              by_cases k2 : lk = 2
              · have e2 : (lk == 2) = true := by simp [k2]
                have e3 : (lk == 3) = false := by simp [k2]
                have HKS := Aside0.mk (show ks = [] from List.eq_nil_of_length_eq_zero (by have := HAR.out; rw [k2, ← HM.out] at *; simp [arityP] at this; omega))
                have HR := Aside0.mk (mayF_var (v := v) (l := .mk lk ln ks) (d := d) (s := s) (by omega) ⟨k2, HKS.out⟩)
                clear k1 k2
                by_cases q0 : ln < 0
                · have hw := Aside0.mk (may_bad (HR.out.trans (if_pos (.inl q0))) (by decide))
                  go_upto_region 4 with (fail)
                  go_quiet ((go_at_call 49; exact Calls.quiet_of_same (arity_calls _ _)))
                  go_wp2
                  go_ret
                  rw [hw.out]
                  exact ⟨rfl, HF.out.1, chg_drewN HF.out.2 _⟩
                · by_cases q1 : v ≤ ln
                  · have hw := Aside0.mk (may_bad (HR.out.trans (if_pos (.inr q1))) (by decide))
                    go_upto_region 4 with (fail)
                    go_quiet ((go_at_call 49; exact Calls.quiet_of_same (arity_calls _ _)))
                    go_wp2
                    go_ret
                    rw [hw.out]
                    exact ⟨rfl, HF.out.1, chg_drewN HF.out.2 _⟩
                  · have HOK := Aside0.mk (HR.out.trans (if_neg (by simp only [Lv.num]; omega)))
                    go_upto_region 4 with (fail)
                    go_quiet ((go_at_call 49; exact Calls.quiet_of_same (arity_calls _ _)))
                    go_wp2
                    go_meet
                    case rel => exact ⟨HOK, ⟨HF.out.1⟩, ⟨chg_drewN HF.out.2 _⟩, HBX.out⟩
              · have e2 : (lk == 2) = false := by simp [k2]
                have HR := Aside0.mk (mayF_rest (v := v) (l := .mk lk ln ks) (d := d) (s := s) (by omega) (fun h => k2 h.1))
                by_cases k3 : lk = 3
                · have e3 : (lk == 3) = true := by simp [k3]
                  have HRR := Aside0.mk (show rightP (.mk lk ln ks) 1048576 0 = decide (1 ≤ ln ∧ ln ≤ 1048576) by rw [k3]; exact right_succ (by rw [← HM.out, HAR.out, k3]))
                  clear k1 k2 k3
                  by_cases q0 : ln < 1
                  · have hw := Aside0.mk (may_bad (HR.out.trans (if_pos (by rw [HRR.out]; exact decide_eq_false (by omega)))) (by decide))
                    go_upto_region 4 with (fail)
                    go_quiet ((go_at_call 49; exact Calls.quiet_of_same (arity_calls _ _)))
                    go_wp2
                    go_ret
                    rw [hw.out]
                    exact ⟨rfl, HF.out.1, chg_drewN HF.out.2 _⟩
                  · by_cases q1 : 1048576 < ln
                    · have hw := Aside0.mk (may_bad (HR.out.trans (if_pos (by rw [HRR.out]; exact decide_eq_false (by omega)))) (by decide))
                      go_upto_region 4 with (fail)
                      go_quiet ((go_at_call 49; exact Calls.quiet_of_same (arity_calls _ _)))
                      go_wp2
                      go_ret
                      rw [hw.out]
                      exact ⟨rfl, HF.out.1, chg_drewN HF.out.2 _⟩
                    · have HOK := Aside0.mk (HR.out.trans (if_neg (by rw [HRR.out, decide_eq_true (by omega)]; decide)))
                      go_upto_region 4 with (fail)
                      go_quiet ((go_at_call 49; exact Calls.quiet_of_same (arity_calls _ _)))
                      go_wp2
                      go_meet
                      case rel => exact ⟨HOK, ⟨HF.out.1⟩, ⟨chg_drewN HF.out.2 _⟩, HBX.out⟩
                · have e3 : (lk == 3) = false := by simp [k3]
                  have HOK := Aside0.mk (HR.out.trans (if_neg (by rw [right_else (n := ln) (ks := ks) (most := 1048576) (mostV := 0) (by rw [← HM.out]; exact HAR.out) k1 k2 k3]; decide)))
                  clear k1 k2 k3
                  go_upto_region 4 with (fail)
                  go_quiet ((go_at_call 49; exact Calls.quiet_of_same (arity_calls _ _)))
                  go_wp2
                  go_meet
                  case rel => exact ⟨HOK, ⟨HF.out.1⟩, ⟨chg_drewN HF.out.2 _⟩, HBX.out⟩
          case rest =>
            obtain ⟨HRT, HG0, HC0, hbox2⟩ := hcut
            have hz : (mayF v (.mk lk ln ks) d s).1 = 0 := by rw [HRT.out]
            have HE := Aside0.mk (walkP_go hz)
            rw [HRT.out] at HE
            simp only [Lv.kids] at HE
            have hs3 : s + 1 ≤ 100 := by omega
            clear hz
            go_wp2
            go_loopw [87] (fun i wr => ∃ (k : Nat) (s' : Int), i = .int .i64 k ∧ k ≤ m ∧ 0 ≤ s' ∧ s' ≤ 100 ∧ Aside0 (walkKs (mayF v) (ks.drop k) (d + 1) s' = walkP (mayF v) (.mk lk ln ks) d s) ∧ Aside0 (NumAt wr g s') ∧ Aside0 (Chg (fun k => k = g) w wr)) (fun i _ => m - (intOf i).toNat)
            case atStart => exact ⟨0, s + 1, rfl, Nat.zero_le _, by omega, by omega, ⟨HE.out.symm⟩, HG0, HC0⟩
            case round =>
              clear HE HG0 HC0 hbox2
              obtain ⟨k, s', rfl, hk, hs4, hs5, HE, HG1, HC1⟩ := hrel
              have HIN2 := Aside0.mk (LvIn.stay HIN.out (chg_below HC1.out hBg (Nat.le_of_lt (Nat.lt_of_le_of_lt hBg hglt))))
              by_cases hlt : k < m
              · have hlt2 : k < ks.length := by rw [← HM.out]; exact hlt
                obtain ⟨x, hx⟩ : ∃ x, ks[k]? = some x := ⟨_, List.getElem?_eq_getElem hlt2⟩
                obtain ⟨A', c', hcs, hin⟩ := HIN2.out.kid k x hx
                obtain ⟨ad, rfl, hc1, hc2, hc3⟩ := hcs.facts
                clear hcs
                have HX := Aside0.mk hx
                have HXIN := Aside0.mk hin
                clear hx hin hlt2
                have hglt2 := blk_lt HG1.out
                by_cases h2 : (walkP (mayF v) x (d + 1) s').1 = 0
                · have hsm := walkP_small (mayF_small v) x (d + 1) s' hs4 h2
                  have HK := Aside0.mk ((walkKs_go (r := ks.drop (k + 1)) h2).symm.trans ((congrArg (fun l => walkKs (mayF v) l (d + 1) s') (drop_kid HX.out)).symm.trans HE.out))
                  obtain ⟨e2, s2, hes⟩ : ∃ a b, walkP (mayF v) x (d + 1) s' = (a, b) := ⟨_, _, rfl⟩
                  have HV := Aside0.mk hes
                  rw [hes] at hsm h2 HK
                  simp only at hsm h2 HK
                  subst h2
                  have hs6 := hsm.1
                  have hs7 := hsm.2
                  clear hes hsm
                  go_wp2_with (go_at_call 30; go_must (refine (IH.out x (Nat.lt_of_lt_of_le (kid_small HX.out) (Nat.le_of_lt_succ hN)) A' c' (d + 1) s' g B _ (LvIn.stay HXIN.out ((Below.refl _ _).alloc (Nat.le_of_lt (Nat.lt_of_le_of_lt hBg hglt2)) _)) (HG1.out.alloc _) hBg hs4 hs5 (by omega) (by omega)).mono ?_; rintro e w2 ⟨rfl, hg1, hc1⟩; rw [HV.out] at hg1 ⊢; have HG2 := Aside0.mk hg1; have HC2 := Aside0.mk (chg_trans HC1.out (chg_trans (chg_alloc _ _ _) hc1)); clear hg1 hc1))
                  go_roundw
                  case rel => exact ⟨k + 1, s2, by go_num, by omega, hs6, hs7, HK, HG2, HC2⟩
                  case measure => (simp [intOf]; try omega)
                · have HK := Aside0.mk ((walkKs_stop (r := ks.drop (k + 1)) h2).symm.trans ((congrArg (fun l => walkKs (mayF v) l (d + 1) s') (drop_kid HX.out)).symm.trans HE.out))
                  obtain ⟨e2, s2, hes⟩ : ∃ a b, walkP (mayF v) x (d + 1) s' = (a, b) := ⟨_, _, rfl⟩
                  have HV := Aside0.mk hes
                  rw [hes] at h2
                  have h2' : (e2 != 0) = true := by simpa using h2
                  clear hes h2
                  go_wp2_with (go_at_call 30; go_must (refine (IH.out x (Nat.lt_of_lt_of_le (kid_small HX.out) (Nat.le_of_lt_succ hN)) A' c' (d + 1) s' g B _ (LvIn.stay HXIN.out ((Below.refl _ _).alloc (Nat.le_of_lt (Nat.lt_of_le_of_lt hBg hglt2)) _)) (HG1.out.alloc _) hBg hs4 hs5 (by omega) (by omega)).mono ?_; rintro e w2 ⟨rfl, hg1, hc1⟩; rw [HV.out] at hg1 ⊢; have HG2 := Aside0.mk hg1; have HC2 := Aside0.mk (chg_trans HC1.out (chg_trans (chg_alloc _ _ _) hc1)); clear hg1 hc1))
                  go_ret
                  rw [← HK.out, HV.out]
                  exact ⟨rfl, HG2.out, HC2.out⟩
              · obtain rfl : k = m := by omega
                have hlt' : decide ((k : Int) < k) = false := by simp
                have HW := Aside0.mk (show walkP (mayF v) (.mk lk ln ks) d s = (0, s') by rw [← HE.out, List.drop_of_length_le (by rw [← HM.out]; exact Nat.le_refl _), walkKs])
                go_wp2
                go_ret
                rw [HW.out]
                exact ⟨rfl, HG1.out, HC1.out⟩
        · have hbad : rightP (.mk lk ln ks) 1048576 0 = false := right_bad (by rw [← HM.out]; exact h3)
          have hw := Aside0.mk (may_bad ((mayF_rest (v := v) (l := .mk lk ln ks) (d := d) (s := s) (by omega) (fun h => h3 (by rw [HM.out, show lk = 2 from h.1, show ks = [] from h.2]; rfl))).trans (if_pos hbad)) (by decide))
          have h3' : ((m : Int) != arityP lk) = true := by simp [h3]
          clear hbad h3
          go_upto_region 4 with (fail)
          by_cases h4 : arityP lk < 0
          · go_quiet ((go_at_call 49; exact Calls.quiet_of_same (arity_calls _ _)))
            go_wp2
            go_ret
            rw [hw.out]
            exact ⟨rfl, HF.out.1, chg_drewN HF.out.2 _⟩
          · go_quiet ((go_at_call 49; exact Calls.quiet_of_same (arity_calls _ _)))
            go_wp2
            go_ret
            rw [hw.out]
            exact ⟨rfl, HF.out.1, chg_drewN HF.out.2 _⟩
end Go.Proofs.Ytjlhbaohippidaa
