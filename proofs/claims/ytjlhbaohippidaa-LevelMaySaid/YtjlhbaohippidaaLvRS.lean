/-
  The walk of the reference's sound.
-/
import Derived.Test.YtjlhbaohippidaaLvR
namespace Go.Proofs.Ytjlhbaohippidaa
open Go.RowKit Go.Proofs.YtjlhbaohippidaaW.PrintWords Go.RegionInvYtjlhbaohippidaa

theorem one_ne {s : Int} : ((1 : Int), s).1 ≠ 0 := by show (1 : Int) ≠ 0; decide
theorem ref_bit {b : Bool} {s : Int} : (((if b = true then (0 : Int) else 1), s).1 == 0) = b := by cases b <;> rfl
theorem ref_leaf {k n : Int} {ks : List Lv} {d s : Int} (hk : k = 1 ∨ k = 2) (hm : (ks.length : Int) = arityP k) (hd : d ≤ 256) (hs : s + 1 ≤ 1000) : walkP sndF (.mk k n ks) d s = ((if rightP (.mk k n ks) 1099511627776 1000 = true then (0 : Int) else 1), s + 1) := by
  rw [arity_12 hk] at hm
  obtain rfl : ks = [] := List.eq_nil_of_length_eq_zero (by omega)
  cases hR : rightP (.mk k n []) 1099511627776 1000 with
  | false =>
    have h := sndF_bad (l := .mk k n []) (d := d) (s := s) (.inr (.inr hR))
    rw [walkP_stop (by rw [h]; exact one_ne), h]; rfl
  | true =>
    have h := sndF_ok (l := .mk k n []) (d := d) (s := s) (by rw [hR]; simp; omega)
    rw [walkP_go (by rw [h]), h]; rfl
def RefPost (w : World) (g : Nat) (r : Int × Int) (e : Ending) (w' : World) : Prop := e = .returned (.bool (r.1 == 0)) ∧ NumAt w' g r.2 ∧ Chg (fun k => k = g) w w'
set_option maxHeartbeats 4000000 in
theorem ref_sound (N : Nat) : ∀ (l : Lv), SizeOf.sizeOf l < N → ∀ (A : Option Addr) (c : Nat) (d s : Int) (g B : Nat) (w : World), LvIn w B A c l → NumAt w g s → B ≤ g → 0 ≤ s → s ≤ 1000 → 0 ≤ d → d ≤ 257 →
    Calls Try.prog 36 #[lvV A c l, .int .i64 d, .pointer (some ⟨g, 0, none⟩)] w (RefPost w g (walkP sndF l d s)) := by
  induction N with
  | zero => intro l h; omega
  | succ N ih =>
    rintro ⟨lk, ln, ks⟩ hN A c d s g B w hin hg hBg hs0 hs1 hd0 hd1
    have IH := Aside0.mk ih
    have HIN := Aside0.mk hin
    have HG := Aside0.mk hg
    have hcell := hg.cell
    have hfz := blk_frozen hg 0
    have hlen := hin.len
    simp only [Lv.kids] at hlen
    have hl9 : ks.length ≤ 9223372036854775807 := by omega
    have hglt := blk_lt hg
    have hgne : g ≠ w.heap.size := Nat.ne_of_lt hglt
    clear ih hin hg hlen
    unfold lvV
    simp only [Lv.kind, Lv.num, Lv.kids]
    obtain ⟨m, hm⟩ : ∃ m, m = ks.length := ⟨_, rfl⟩
    rw [← hm] at hl9 ⊢
    have HM := Aside0.mk hm
    clear hm
    have hfin : NumAt ((w.setCell ⟨g, 0, none⟩ (.int .i64 (s + 1))).alloc (.cells #[.int .i64 lk, .int .i64 ln, .slice A m c] 24 (0, 0))) g (s + 1) := (HG.out.set _).alloc _
    have hch : Chg (fun k => k = g) w ((w.setCell ⟨g, 0, none⟩ (.int .i64 (s + 1))).alloc (.cells #[.int .i64 lk, .int .i64 ln, .slice A m c] 24 (0, 0))) := chg_trans (chg_set _ _ _ _) (chg_alloc _ _ _)
    have HF := Aside0.mk (And.intro hfin hch)
    have hc2 := hfin.cell
    clear hfin hch
    go_enter Try.func36, Try.ntmps36
    by_cases h1 : 256 < d
    · have hw := Aside0.mk (show walkP sndF (.mk lk ln ks) d s = (1, s + 1) by rw [walkP_stop (by rw [sndF_bad (.inr (.inl h1))]; exact one_ne), sndF_bad (.inr (.inl h1))])
      go_upto_region 2 with (fail)
      go_quiet ((go_at_call 49; exact Calls.quiet_of_same (arity_calls _ _)))
      go_wp2
      go_ret
      rw [hw.out]
      exact ⟨rfl, HF.out.1, chg_drewN HF.out.2 _⟩
    · by_cases h2 : 1000 < s + 1
      · have hw := Aside0.mk (show walkP sndF (.mk lk ln ks) d s = (1, s + 1) by rw [walkP_stop (by rw [sndF_bad (.inl h2)]; exact one_ne), sndF_bad (.inl h2)])
        go_upto_region 2 with (fail)
        go_quiet ((go_at_call 49; exact Calls.quiet_of_same (arity_calls _ _)))
        go_wp2
        go_ret
        rw [hw.out]
        exact ⟨rfl, HF.out.1, chg_drewN HF.out.2 _⟩
      · by_cases h3 : (m : Int) = arityP lk
        · have h3' : ((m : Int) != arityP lk) = false := by simp [h3]
          have h3n : 0 ≤ arityP lk := by omega
          have HAR := Aside0.mk h3
          clear h3
          go_upto_region 2 with (fail)
          go_quiet ((go_at_call 49; exact Calls.quiet_of_same (arity_calls _ _)))
          go_upto_block 0 with (fail)
          go_cut [] (fun w2 => Aside0 (rightP (.mk lk ln ks) 1099511627776 1000 = true) ∧ Aside0 (NumAt w2 g (s + 1)) ∧ Aside0 (Chg (fun k => k = g) w w2) ∧ w2.cell? ⟨w.heap.size, 2, none⟩ = some (.slice A m c))
          case first =>
            have hbx : ((w.setCell ⟨g, 0, none⟩ (.int .i64 (s + 1))).alloc (.cells #[.int .i64 lk, .int .i64 ln, .slice A m c] 24 (0, 0))).cell? ⟨w.heap.size, 2, none⟩ = some (.slice A m c) := by
              have := box_cell (w.setCell ⟨g, 0, none⟩ (.int .i64 (s + 1))) #[.int .i64 lk, .int .i64 ln, .slice A m c] 24 2 (.slice A m c) rfl
              rwa [show (w.setCell ⟨g, 0, none⟩ (.int .i64 (s + 1))).heap.size = w.heap.size by simp [World.setCell]] at this
            have HBX := Aside0.mk hbx
            clear hbx
            by_cases k1 : lk = 1
            · have e1 : (lk == 1) = true := by simp [k1]
              have HL := Aside0.mk (ref_leaf (n := ln) (ks := ks) (d := d) (s := s) (.inl k1) (by rw [← HM.out]; exact HAR.out) (by omega) (by omega))
              have HRR := Aside0.mk (show rightP (.mk lk ln ks) 1099511627776 1000 = decide (0 ≤ ln ∧ ln ≤ 1099511627776) by rw [k1]; exact right_num (by rw [← HM.out, HAR.out, k1]))
              clear k1
              by_cases q1 : 0 ≤ ln
              · go_wp2
                go_ret
                exact ⟨congrArg (fun b => Ending.returned (.bool b)) (by rw [HL.out, ref_bit, HRR.out]; first | exact (decide_eq_true (by omega)).symm | exact decide_eq_decide.2 (by omega)), by rw [HL.out]; exact HF.out.1, chg_drewN HF.out.2 _⟩
              · go_wp2
                go_ret
                exact ⟨congrArg (fun b => Ending.returned (.bool b)) (by rw [HL.out, ref_bit, HRR.out]; exact (decide_eq_false (by omega)).symm), by rw [HL.out]; exact HF.out.1, chg_drewN HF.out.2 _⟩
            · have e1 : (lk == 1) = false := by simp [k1]
              by_cases k2 : lk = 2
              · have e2 : (lk == 2) = true := by simp [k2]
                have HL := Aside0.mk (ref_leaf (n := ln) (ks := ks) (d := d) (s := s) (.inr k2) (by rw [← HM.out]; exact HAR.out) (by omega) (by omega))
                have HRR := Aside0.mk (show rightP (.mk lk ln ks) 1099511627776 1000 = decide (0 ≤ ln ∧ ln ≤ 1000) by rw [k2]; exact right_var (by rw [← HM.out, HAR.out, k2]))
                clear k1 k2
                by_cases q1 : 0 ≤ ln
                · go_wp2
                  go_ret
                  exact ⟨congrArg (fun b => Ending.returned (.bool b)) (by rw [HL.out, ref_bit, HRR.out]; first | exact (decide_eq_true (by omega)).symm | exact decide_eq_decide.2 (by omega)), by rw [HL.out]; exact HF.out.1, chg_drewN HF.out.2 _⟩
                · go_wp2
                  go_ret
                  exact ⟨congrArg (fun b => Ending.returned (.bool b)) (by rw [HL.out, ref_bit, HRR.out]; exact (decide_eq_false (by omega)).symm), by rw [HL.out]; exact HF.out.1, chg_drewN HF.out.2 _⟩
              · have e2 : (lk == 2) = false := by simp [k2]
                by_cases k3 : lk = 3
                · have e3 : (lk == 3) = true := by simp [k3]
                  have hrr : rightP (.mk lk ln ks) 1099511627776 1000 = decide (1 ≤ ln ∧ ln ≤ 1099511627776) := by rw [k3]; exact right_succ (by rw [← HM.out, HAR.out, k3])
                  clear k1 k2 k3
                  by_cases q : 1 ≤ ln ∧ ln ≤ 1099511627776
                  · have HRT := Aside0.mk (hrr.trans (decide_eq_true q))
                    have q1 := q.1
                    have q2 := q.2
                    clear hrr q
                    go_wp2
                    go_meet
                    case rel => exact ⟨HRT, ⟨HF.out.1⟩, ⟨chg_drewN HF.out.2 _⟩, HBX.out⟩
                  · have hbad := hrr.trans (decide_eq_false q)
                    have hw := Aside0.mk (show walkP sndF (.mk lk ln ks) d s = (1, s + 1) by rw [walkP_stop (by rw [sndF_bad (.inr (.inr hbad))]; exact one_ne), sndF_bad (.inr (.inr hbad))])
                    clear hrr hbad
                    by_cases q1 : ln < 1
                    · go_wp2
                      go_ret
                      rw [hw.out]
                      exact ⟨rfl, HF.out.1, chg_drewN HF.out.2 _⟩
                    · have q2 : 1099511627776 < ln := by omega
                      go_wp2
                      go_ret
                      rw [hw.out]
                      exact ⟨rfl, HF.out.1, chg_drewN HF.out.2 _⟩
                · have e3 : (lk == 3) = false := by simp [k3]
                  have HRT := Aside0.mk (right_else (n := ln) (ks := ks) (most := 1099511627776) (mostV := 1000) (by rw [← HM.out]; exact HAR.out) k1 k2 k3)
                  clear k1 k2 k3
                  go_wp2
                  go_meet
                  case rel => exact ⟨HRT, ⟨HF.out.1⟩, ⟨chg_drewN HF.out.2 _⟩, HBX.out⟩
          case rest =>
            obtain ⟨HRT, HG0, HC0, hbox2⟩ := hcut
            have hok := sndF_ok (l := .mk lk ln ks) (d := d) (s := s) (by rw [HRT.out]; simp; omega)
            have hz : (sndF (.mk lk ln ks) d s).1 = 0 := by rw [hok]
            have HE := Aside0.mk (walkP_go hz)
            rw [hok] at HE
            simp only [Lv.kids] at HE
            have hs3 : s + 1 ≤ 1000 := by omega
            clear hok hz
            go_wp2
            go_loopw [72] (fun i wr => ∃ (k : Nat) (s' : Int), i = .int .i64 k ∧ k ≤ m ∧ 0 ≤ s' ∧ s' ≤ 1000 ∧ Aside0 (walkKs sndF (ks.drop k) (d + 1) s' = walkP sndF (.mk lk ln ks) d s) ∧ Aside0 (NumAt wr g s') ∧ Aside0 (Chg (fun k => k = g) w wr)) (fun i _ => m - (intOf i).toNat)
            case atStart => exact ⟨0, s + 1, rfl, Nat.zero_le _, by omega, by omega, ⟨HE.out.symm⟩, HG0, HC0⟩
            case round =>
              clear HE HG0 HC0 hbox2
              obtain ⟨k, s', rfl, hk, hs4, hs5, HE, HG1, HC1⟩ := hrel
              have HIN2 := Aside0.mk (LvIn.stay HIN.out (chg_below HC1.out hBg (Nat.le_of_lt (Nat.lt_of_le_of_lt hBg hglt))))
              by_cases hlt : k < m
              · have hlt2 : k < ks.length := by rw [← HM.out]; exact hlt
                obtain ⟨x, hx⟩ : ∃ x, ks[k]? = some x := ⟨_, List.getElem?_eq_getElem hlt2⟩
                obtain ⟨A', c', hcs, hin⟩ := HIN2.out.kid k x hx
                obtain ⟨ad, rfl, hc1, hc2, hc3⟩ := hcs.facts
                clear hcs
                have HX := Aside0.mk hx
                have HXIN := Aside0.mk hin
                clear hx hin hlt2
                have hglt2 := blk_lt HG1.out
                by_cases h2 : (walkP sndF x (d + 1) s').1 = 0
                · have hsm := walkP_small sndF_small x (d + 1) s' hs4 h2
                  have HK := Aside0.mk ((walkKs_go (r := ks.drop (k + 1)) h2).symm.trans ((congrArg (fun l => walkKs sndF l (d + 1) s') (drop_kid HX.out)).symm.trans HE.out))
                  obtain ⟨e2, s2, hes⟩ : ∃ a b, walkP sndF x (d + 1) s' = (a, b) := ⟨_, _, rfl⟩
                  have HV := Aside0.mk hes
                  rw [hes] at hsm h2 HK
                  simp only at hsm h2 HK
                  subst h2
                  have hs6 := hsm.1
                  have hs7 := hsm.2
                  clear hes hsm
                  go_wp2_with (go_at_call 36; go_must (refine (IH.out x (Nat.lt_of_lt_of_le (kid_small HX.out) (Nat.le_of_lt_succ hN)) A' c' (d + 1) s' g B _ (LvIn.stay HXIN.out ((Below.refl _ _).alloc (Nat.le_of_lt (Nat.lt_of_le_of_lt hBg hglt2)) _)) (HG1.out.alloc _) hBg hs4 hs5 (by omega) (by omega)).mono ?_; rintro e w2 ⟨rfl, hg1, hc1⟩; rw [HV.out] at hg1 ⊢; have HG2 := Aside0.mk hg1; have HC2 := Aside0.mk (chg_trans HC1.out (chg_trans (chg_alloc _ _ _) hc1)); clear hg1 hc1))
                  go_roundw
                  case rel => exact ⟨k + 1, s2, by go_num, by omega, hs6, hs7, HK, HG2, HC2⟩
                  case measure => (simp [intOf]; try omega)
                · have HK := Aside0.mk ((walkKs_stop (r := ks.drop (k + 1)) h2).symm.trans ((congrArg (fun l => walkKs sndF l (d + 1) s') (drop_kid HX.out)).symm.trans HE.out))
                  obtain ⟨e2, s2, hes⟩ : ∃ a b, walkP sndF x (d + 1) s' = (a, b) := ⟨_, _, rfl⟩
                  have HV := Aside0.mk hes
                  rw [hes] at h2
                  have h2' : (e2 == 0) = false := by simpa using h2
                  clear hes h2
                  go_wp2_with (go_at_call 36; go_must (refine (IH.out x (Nat.lt_of_lt_of_le (kid_small HX.out) (Nat.le_of_lt_succ hN)) A' c' (d + 1) s' g B _ (LvIn.stay HXIN.out ((Below.refl _ _).alloc (Nat.le_of_lt (Nat.lt_of_le_of_lt hBg hglt2)) _)) (HG1.out.alloc _) hBg hs4 hs5 (by omega) (by omega)).mono ?_; rintro e w2 ⟨rfl, hg1, hc1⟩; rw [HV.out] at hg1 ⊢; have HG2 := Aside0.mk hg1; have HC2 := Aside0.mk (chg_trans HC1.out (chg_trans (chg_alloc _ _ _) hc1)); clear hg1 hc1))
                  go_ret
                  rw [← HK.out, HV.out]
                  exact ⟨by simp [h2'], HG2.out, HC2.out⟩
              · obtain rfl : k = m := by omega
                have hlt' : decide ((k : Int) < k) = false := by simp
                have HW := Aside0.mk (show walkP sndF (.mk lk ln ks) d s = (0, s') by rw [← HE.out, List.drop_of_length_le (by rw [← HM.out]; exact Nat.le_refl _), walkKs])
                go_wp2
                go_ret
                rw [HW.out]
                exact ⟨rfl, HG1.out, HC1.out⟩
        · have hbad : rightP (.mk lk ln ks) 1099511627776 1000 = false := right_bad (by rw [← HM.out]; exact h3)
          have hw := Aside0.mk (show walkP sndF (.mk lk ln ks) d s = (1, s + 1) by rw [walkP_stop (by rw [sndF_bad (.inr (.inr hbad))]; exact one_ne), sndF_bad (.inr (.inr hbad))])
          have h3' : ((m : Int) != arityP lk) = true := by simp [h3]
          clear hbad h3
          go_upto_region 2 with (fail)
          by_cases h4 : arityP lk < 0
          · go_quiet ((go_at_call 49; exact Calls.quiet_of_same (arity_calls _ _)))
            go_wp2
            go_ret
            rw [hw.out]
            exact ⟨rfl, HF.out.1, chg_drewN HF.out.2 _⟩
          · go_quiet ((go_at_call 49; exact Calls.quiet_of_same (arity_calls _ _)))
            go_wp2
            go_ret
            rw [hw.out]
            exact ⟨rfl, HF.out.1, chg_drewN HF.out.2 _⟩
end Go.Proofs.Ytjlhbaohippidaa
