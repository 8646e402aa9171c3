/-
  The walk of May: its visit, and walk over it.
-/
import Derived.Test.YtjlhbaohippidaaLvW
namespace Go.Proofs.Ytjlhbaohippidaa
open Go.RowKit Go.Proofs.YtjlhbaohippidaaW.PrintWords Go.RegionInvYtjlhbaohippidaa

def mayF (v : Int) (l : Lv) (d s : Int) : Int × Int :=
  if 32 < d ∨ 100 < s + 1 then (2, s + 1) else if l.kind = 2 ∧ l.kids = [] then (if l.num < 0 ∨ v ≤ l.num then (10, s + 1) else (0, s + 1)) else if rightP l 1048576 0 = false then (1, s + 1) else (0, s + 1)
theorem mayF_long {v : Int} {l : Lv} {d s : Int} (h : 32 < d ∨ 100 < s + 1) : mayF v l d s = (2, s + 1) := if_pos h
theorem mayF_var {v : Int} {l : Lv} {d s : Int} (h : ¬ (32 < d ∨ 100 < s + 1)) (h2 : l.kind = 2 ∧ l.kids = []) : mayF v l d s = (if l.num < 0 ∨ v ≤ l.num then (10, s + 1) else (0, s + 1)) := (if_neg h).trans (if_pos h2)
theorem mayF_rest {v : Int} {l : Lv} {d s : Int} (h : ¬ (32 < d ∨ 100 < s + 1)) (h2 : ¬ (l.kind = 2 ∧ l.kids = [])) : mayF v l d s = (if rightP l 1048576 0 = false then (1, s + 1) else (0, s + 1)) := (if_neg h).trans (if_neg h2)
theorem mayF_small' {v : Int} {l : Lv} {d s : Int} (_hs : 0 ≤ s) (h : (mayF v l d s).1 = 0) : s + 1 ≤ 100 ∧ d ≤ 32 ∧ True ∧ mayF v l d s = (0, s + 1) := by
  by_cases h1 : 32 < d ∨ 100 < s + 1
  · rw [mayF_long h1] at h; simp at h
  · refine ⟨by omega, by omega, trivial, ?_⟩
    by_cases h2 : l.kind = 2 ∧ l.kids = []
    · rw [mayF_var h1 h2] at h ⊢
      split at h
      · simp at h
      · rename_i h3; rw [if_neg h3]
    · rw [mayF_rest h1 h2] at h ⊢
      split at h
      · simp at h
      · rename_i h3; rw [if_neg h3]
theorem mayF_small (v : Int) : Small (mayF v) 100 := fun l d s h0 h => by
  have := mayF_small' h0 h
  rw [this.2.2.2]
  exact ⟨by show 0 ≤ s + 1; omega, this.1⟩
theorem NumAt.chg {w w' : World} {g gv : Nat} {s : Int} (h : NumAt w gv s) (hc : Chg (fun k => k = g) w w') (hne : g ≠ gv) : NumAt w' gv s := (hc.block gv (blk_lt h) (fun e => hne e.symm)).trans h
theorem right_at (A : Option Addr) (c : Nat) (l : Lv) (most mostV : Int) (m : Nat) (hm : m = l.kids.length) (hc : l.kids.length ≤ 9223372036854775807) (w : World) :
    Calls Try.prog 29 #[.agg #[.int .i64 l.kind, .int .i64 l.num, .slice A m c], .int .i64 most, .int .i64 mostV] w fun e w' => e = .returned (.bool (rightP l most mostV)) ∧ Below w.heap.size w w' := by
  subst hm
  exact right_calls A c l most mostV w hc
abbrev mayFn (g gv : Nat) : Value := .func (.func 28) #[] #[.pointer (some ⟨g, 0, none⟩), .pointer (some ⟨gv, 0, none⟩)]
set_option maxHeartbeats 4000000 in
theorem may1_calls (A : Option Addr) (c : Nat) (l : Lv) (d s v : Int) (g gv : Nat) (w : World) (hc : l.kids.length ≤ 9223372036854775807) (hg : NumAt w g s) (hgv : NumAt w gv v) (hne : g ≠ gv) (hs0 : 0 ≤ s) (hs1 : s ≤ 100) (hd0 : 0 ≤ d) (hd1 : d ≤ 33) :
    Calls Try.prog 28 #[lvV A c l, .int .i64 d, .pointer (some ⟨g, 0, none⟩), .pointer (some ⟨gv, 0, none⟩)] w (VisitPost w g (mayF v l d s)) := by
  have HG := Aside0.mk hg
  have hcell := hg.cell
  have hfz := blk_frozen hg 0
  have hc2 := (hg.alloc (.cells #[.int .i64 l.kind, .int .i64 l.num, .slice A l.kids.length c] 24 (0, 0))).cell
  have HC := Aside0.mk hc
  have hglt := blk_lt hg
  have hgvlt := blk_lt hgv
  have hgne : g ≠ w.heap.size := Nat.ne_of_lt hglt
  have hgvne : gv ≠ w.heap.size := Nat.ne_of_lt hgvlt
  have hcv := ((hgv.chg (chg_set w g 0 (.int .i64 (s + 1))) hne).alloc (.cells #[.int .i64 l.kind, .int .i64 l.num, .slice A l.kids.length c] 24 (0, 0))).cell
  have hcv0 := hgv.cell
  have hne' : gv ≠ g := fun e => hne e.symm
  obtain ⟨m, hm⟩ : ∃ m, m = l.kids.length := ⟨_, rfl⟩
  have HM := Aside0.mk hm
  clear hg hgv hc
  unfold lvV
  go_enter Try.func28, Try.ntmps28
  have hfin : NumAt ((w.setCell ⟨g, 0, none⟩ (.int .i64 (s + 1))).alloc (.cells #[.int .i64 l.kind, .int .i64 l.num, .slice A l.kids.length c] 24 (0, 0))) g (s + 1) := (HG.out.set _).alloc _
  have hch : Chg (fun k => k = g) w ((w.setCell ⟨g, 0, none⟩ (.int .i64 (s + 1))).alloc (.cells #[.int .i64 l.kind, .int .i64 l.num, .slice A l.kids.length c] 24 (0, 0))) := chg_trans (chg_set _ _ _ _) (chg_alloc _ _ _)
  have HF := Aside0.mk (And.intro hfin hch)
  rw [← hm] at hc2 hcv HF ⊢
  clear hfin hch hm
  by_cases h1 : 32 < d
  · have HE := Aside0.mk (mayF_long (v := v) (l := l) (s := s) (.inl h1))
    go_wp2
    go_ret
    rw [HE.out]
    exact ⟨rfl, HF.out.1, HF.out.2⟩
  · by_cases h2 : 100 < s + 1
    · have HE := Aside0.mk (mayF_long (v := v) (l := l) (d := d) (.inr h2))
      go_wp2
      go_ret
      rw [HE.out]
      exact ⟨rfl, HF.out.1, HF.out.2⟩
    · by_cases hk : l.kind = 2
      · have hk' : (l.kind == 2) = true := by simp [hk]
        by_cases hm0 : m = 0
        · have hkids : l.kids = [] := List.eq_nil_of_length_eq_zero (by rw [← HM.out]; exact hm0)
          have HE := Aside0.mk (mayF_var (v := v) (d := d) (s := s) (by omega) ⟨hk, hkids⟩)
          have hm0' : ((m : Int) == 0) = true := by simp [hm0]
          clear hkids hk hm0
          by_cases hn0 : l.num < 0
          · have HR := Aside0.mk (HE.out.trans (if_pos (.inl hn0)))
            go_wp2
            go_ret
            rw [HR.out]
            exact ⟨rfl, HF.out.1, HF.out.2⟩
          · by_cases hnv : v ≤ l.num
            · have HR := Aside0.mk (HE.out.trans (if_pos (.inr hnv)))
              go_wp2
              go_ret
              rw [HR.out]
              exact ⟨rfl, HF.out.1, HF.out.2⟩
            · have HR := Aside0.mk (HE.out.trans (if_neg (by omega)))
              go_wp2
              go_ret
              rw [HR.out]
              exact ⟨rfl, HF.out.1, HF.out.2⟩
        · have hm0' : ((m : Int) == 0) = false := by simp; omega
          have HE := Aside0.mk (mayF_rest (v := v) (d := d) (s := s) (by omega) (l := l) (fun h => hm0 (by rw [HM.out, h.2]; rfl)))
          clear hk
          cases hR : rightP l 1048576 0 with
          | false =>
            have HR := Aside0.mk hR
            have HE2 := Aside0.mk (HE.out.trans (if_pos hR))
            clear hR
            go_wp2_with (go_at_call 29; go_must (refine (right_at A c l 1048576 0 m HM.out HC.out _).mono ?_; rintro e w1 ⟨rfl, hb⟩; rw [HR.out]; have HB := Aside0.mk hb; clear hb))
            go_ret
            rw [HE2.out]
            exact ⟨rfl, HF.out.1.below HB.out, chg_trans HF.out.2 (Chg.of_below HB.out)⟩
          | true =>
            have HR := Aside0.mk hR
            have HE2 := Aside0.mk (HE.out.trans (if_neg (by rw [hR]; decide)))
            clear hR
            go_wp2_with (go_at_call 29; go_must (refine (right_at A c l 1048576 0 m HM.out HC.out _).mono ?_; rintro e w1 ⟨rfl, hb⟩; rw [HR.out]; have HB := Aside0.mk hb; clear hb))
            go_ret
            rw [HE2.out]
            exact ⟨rfl, HF.out.1.below HB.out, chg_trans HF.out.2 (Chg.of_below HB.out)⟩
      · have hk' : (l.kind == 2) = false := by simp [hk]
        have HE := Aside0.mk (mayF_rest (v := v) (d := d) (s := s) (by omega) (l := l) (fun h => hk h.1))
        clear hk
        cases hR : rightP l 1048576 0 with
        | false =>
          have HR := Aside0.mk hR
          have HE2 := Aside0.mk (HE.out.trans (if_pos hR))
          clear hR
          go_wp2_with (go_at_call 29; go_must (refine (right_at A c l 1048576 0 m HM.out HC.out _).mono ?_; rintro e w1 ⟨rfl, hb⟩; rw [HR.out]; have HB := Aside0.mk hb; clear hb))
          go_ret
          rw [HE2.out]
          exact ⟨rfl, HF.out.1.below HB.out, chg_trans HF.out.2 (Chg.of_below HB.out)⟩
        | true =>
          have HR := Aside0.mk hR
          have HE2 := Aside0.mk (HE.out.trans (if_neg (by rw [hR]; decide)))
          clear hR
          go_wp2_with (go_at_call 29; go_must (refine (right_at A c l 1048576 0 m HM.out HC.out _).mono ?_; rintro e w1 ⟨rfl, hb⟩; rw [HR.out]; have HB := Aside0.mk hb; clear hb))
          go_ret
          rw [HE2.out]
          exact ⟨rfl, HF.out.1.below HB.out, chg_trans HF.out.2 (Chg.of_below HB.out)⟩
theorem may1_at (A : Option Addr) (c : Nat) (k n : Int) (ks : List Lv) (m : Nat) (d s v : Int) (g gv : Nat) (w : World) (hm : m = ks.length) (hc : m ≤ 9223372036854775807) (hg : NumAt w g s) (hgv : NumAt w gv v) (hne : g ≠ gv) (hs0 : 0 ≤ s) (hs1 : s ≤ 100) (hd0 : 0 ≤ d) (hd1 : d ≤ 33) :
    Calls Try.prog 28 #[.agg #[.int .i64 k, .int .i64 n, .slice A m c], .int .i64 d, .pointer (some ⟨g, 0, none⟩), .pointer (some ⟨gv, 0, none⟩)] w (VisitPost w g (mayF v (.mk k n ks) d s)) := by
  subst hm
  exact may1_calls A c (.mk k n ks) d s v g gv w hc hg hgv hne hs0 hs1 hd0 hd1
set_option maxHeartbeats 4000000 in
theorem walk_may (v : Int) (gv : Nat) (N : Nat) : ∀ (l : Lv), SizeOf.sizeOf l < N → ∀ (A : Option Addr) (c : Nat) (d s : Int) (g B : Nat) (w : World), LvIn w B A c l → NumAt w g s → NumAt w gv v → g ≠ gv → B ≤ g → 0 ≤ s → s ≤ 100 → 0 ≤ d → d ≤ 33 →
    Calls Try.prog 27 #[lvV A c l, .int .i64 d, mayFn g gv] w (VisitPost w g (walkP (mayF v) l d s)) := by
  induction N with
  | zero => intro l h; omega
  | succ N ih =>
    rintro ⟨lk, ln, ks⟩ hN A c d s g B w hin hg hgv hne hBg hs0 hs1 hd0 hd1
    have IH := Aside0.mk ih
    have HIN := Aside0.mk hin
    have HG := Aside0.mk hg
    have HGV := Aside0.mk hgv
    have hlen := hin.len
    simp only [Lv.kids] at hlen
    have hl9 : ks.length ≤ 9223372036854775807 := by omega
    have hglt := blk_lt hg
    clear ih hin hg hgv hlen
    unfold mayFn lvV
    simp only [Lv.kind, Lv.num, Lv.kids]
    obtain ⟨m, hm⟩ : ∃ m, m = ks.length := ⟨_, rfl⟩
    rw [← hm] at hl9 ⊢
    have HM := Aside0.mk hm
    clear hm
    go_enter Try.func27, Try.ntmps27
    by_cases h1 : ((mayF v) (.mk lk ln ks) d s).1 = 0
    · have HE := Aside0.mk (walkP_go h1)
      have hsm := mayF_small' hs0 h1
      have HV := Aside0.mk hsm.2.2.2
      rw [HV.out] at HE
      simp only [Lv.kids] at HE
      have hs3 := hsm.1
      have hd3 := hsm.2.1
      clear h1 hsm
      go_wp2_with (go_at_call 28; go_must (refine (may1_at A c lk ln ks m d s v g gv _ HM.out hl9 (HG.out.alloc _) (HGV.out.alloc _) hne hs0 hs1 hd0 hd1).mono ?_; rintro e w1 ⟨rfl, hg1, hc1⟩; rw [HV.out] at hg1 ⊢; have HG1 := Aside0.mk hg1; have hbox := chg_cell hc1 (box_cell w #[.int .i64 lk, .int .i64 ln, .slice A m c] 24 2 _ rfl) (Nat.ne_of_gt hglt); have HC1 := Aside0.mk (chg_trans (chg_alloc _ _ _) hc1); clear hg1 hc1))
      go_loopw [21] (fun i wr => ∃ (k : Nat) (s' : Int), i = .int .i64 k ∧ k ≤ m ∧ 0 ≤ s' ∧ s' ≤ 100 ∧ Aside0 (walkKs (mayF v) (ks.drop k) (d + 1) s' = walkP (mayF v) (.mk lk ln ks) d s) ∧ Aside0 (NumAt wr g s') ∧ Aside0 (Chg (fun k => k = g) w wr)) (fun i _ => m - (intOf i).toNat)
      case atStart => exact ⟨0, s + 1, rfl, Nat.zero_le _, by omega, by omega, ⟨HE.out.symm⟩, HG1, HC1⟩
      case round =>
        clear HE HV HG1 HC1 hbox
        obtain ⟨k, s', rfl, hk, hs4, hs5, HE, HG1, HC1⟩ := hrel
        have HIN2 := Aside0.mk (LvIn.stay HIN.out (chg_below HC1.out hBg (Nat.le_of_lt (Nat.lt_of_le_of_lt hBg hglt))))
        by_cases hlt : k < m
        · have hlt2 : k < ks.length := by rw [← HM.out]; exact hlt
          obtain ⟨x, hx⟩ : ∃ x, ks[k]? = some x := ⟨_, List.getElem?_eq_getElem hlt2⟩
          obtain ⟨A', c', hcs, hin⟩ := HIN2.out.kid k x hx
          obtain ⟨ad, rfl, hc1, hc2, hc3⟩ := hcs.facts
          clear hcs
          have HX := Aside0.mk hx
          have HXIN := Aside0.mk hin
          clear hx hin hlt2
          have hglt2 := blk_lt HG1.out
          by_cases h2 : (walkP (mayF v) x (d + 1) s').1 = 0
          · have hsm := walkP_small (mayF_small v) x (d + 1) s' hs4 h2
            have HK := Aside0.mk ((walkKs_go (r := ks.drop (k + 1)) h2).symm.trans ((congrArg (fun l => walkKs (mayF v) l (d + 1) s') (drop_kid HX.out)).symm.trans HE.out))
            obtain ⟨e2, s2, hes⟩ : ∃ a b, walkP (mayF v) x (d + 1) s' = (a, b) := ⟨_, _, rfl⟩
            have HV := Aside0.mk hes
            rw [hes] at hsm h2 HK
            simp only at hsm h2 HK
            subst h2
            have hs6 := hsm.1
            have hs7 := hsm.2
            clear hes hsm
            go_wp2_with (go_at_call 27; go_must (refine (IH.out x (Nat.lt_of_lt_of_le (kid_small HX.out) (Nat.le_of_lt_succ hN)) A' c' (d + 1) s' g B _ (LvIn.stay HXIN.out ((Below.refl _ _).alloc (Nat.le_of_lt (Nat.lt_of_le_of_lt hBg hglt2)) _)) (HG1.out.alloc _) ((HGV.out.chg HC1.out hne).alloc _) hne hBg hs4 hs5 (by omega) (by omega)).mono ?_; rintro e w2 ⟨rfl, hg1, hc1⟩; rw [HV.out] at hg1 ⊢; have HG2 := Aside0.mk hg1; have HC2 := Aside0.mk (chg_trans HC1.out (chg_trans (chg_alloc _ _ _) hc1)); clear hg1 hc1))
            go_roundw
            case rel => exact ⟨k + 1, s2, by go_num, by omega, hs6, hs7, HK, HG2, HC2⟩
            case measure => (simp [intOf]; try omega)
          · have HK := Aside0.mk ((walkKs_stop (r := ks.drop (k + 1)) h2).symm.trans ((congrArg (fun l => walkKs (mayF v) l (d + 1) s') (drop_kid HX.out)).symm.trans HE.out))
            obtain ⟨e2, s2, hes⟩ : ∃ a b, walkP (mayF v) x (d + 1) s' = (a, b) := ⟨_, _, rfl⟩
            have HV := Aside0.mk hes
            rw [hes] at h2
            have h2' : (e2 != 0) = true := by simpa using h2
            clear hes h2
            go_wp2_with (go_at_call 27; go_must (refine (IH.out x (Nat.lt_of_lt_of_le (kid_small HX.out) (Nat.le_of_lt_succ hN)) A' c' (d + 1) s' g B _ (LvIn.stay HXIN.out ((Below.refl _ _).alloc (Nat.le_of_lt (Nat.lt_of_le_of_lt hBg hglt2)) _)) (HG1.out.alloc _) ((HGV.out.chg HC1.out hne).alloc _) hne hBg hs4 hs5 (by omega) (by omega)).mono ?_; rintro e w2 ⟨rfl, hg1, hc1⟩; rw [HV.out] at hg1 ⊢; have HG2 := Aside0.mk hg1; have HC2 := Aside0.mk (chg_trans HC1.out (chg_trans (chg_alloc _ _ _) hc1)); clear hg1 hc1))
            go_ret
            rw [← HK.out, HV.out]
            exact ⟨rfl, HG2.out, HC2.out⟩
        · obtain rfl : k = m := by omega
          have hlt' : decide ((k : Int) < k) = false := by simp
          have HW := Aside0.mk (show walkP (mayF v) (.mk lk ln ks) d s = (0, s') by rw [← HE.out, List.drop_of_length_le (by rw [← HM.out]; exact Nat.le_refl _), walkKs])
          go_wp2
          go_ret
          rw [HW.out]
          exact ⟨rfl, HG1.out, HC1.out⟩
    · have HE := Aside0.mk (walkP_stop h1)
      have h1' : (((mayF v) (.mk lk ln ks) d s).1 != 0) = true := by simp [h1]
      obtain ⟨e1, s1, hes⟩ : ∃ a b, (mayF v) (.mk lk ln ks) d s = (a, b) := ⟨_, _, rfl⟩
      have HV := Aside0.mk hes
      rw [hes] at h1'
      simp only at h1'
      clear h1 hes
      go_wp2_with (go_at_call 28; go_must (refine (may1_at A c lk ln ks m d s v g gv _ HM.out hl9 (HG.out.alloc _) (HGV.out.alloc _) hne hs0 hs1 hd0 hd1).mono ?_; rintro e w1 ⟨rfl, hg1, hc1⟩; rw [HV.out] at hg1 ⊢; have HG1 := Aside0.mk hg1; have HC1 := Aside0.mk (chg_trans (chg_alloc _ _ _) hc1); clear hg1 hc1))
      go_ret
      rw [HE.out, HV.out]
      exact ⟨rfl, HG1.out, HC1.out⟩
end Go.Proofs.Ytjlhbaohippidaa
