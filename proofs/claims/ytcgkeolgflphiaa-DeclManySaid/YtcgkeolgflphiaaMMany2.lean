/-
  Merged: CntW, Dep, WireP, WireT, WireU, WireA, WireR, WireB, WireC, Dlv, PutLv, PutLs, RegE, OpsB, OpsE, OpsC, DOps, PutTR, PutTm, PutTmR, Dc.
-/
import Derived.Laws.BitsAllLaws
import Derived.Test.YtcgkeolgflphiaaWWords
import Derived.Test.YtcgkeolgflphiaaProg
import Derived.Deep.DeepMust
import Derived.Test.YtcgkeolgflphiaaWMore
import Derived.Test.YtcgkeolgflphiaaMMany1
/-! CntW -/
namespace Go.Proofs.Ytcgkeolgflphiaa
open Go.RowKit Go.Proofs.YtcgkeolgflphiaaW.PrintWords Go.RegionInvYtcgkeolgflphiaa

theorem below_drewN {B : Nat} {w w' : World} (h : Below B w w') (n : Nat) : Below B w (w'.drewN n) := ⟨h.os, h.tape, h.output, h.size, h.block⟩
set_option maxHeartbeats 4000000 in
theorem refleaf_calls (t : Tm) (p : Pl) (w : World) (hl : t.kids.length ≤ 9223372036854775807) : Calls Try.prog 66 #[tmV p t] w fun e w' => e = .returned (.bool (leafR t)) ∧ Below w.heap.size w w' := by
  obtain ⟨W, hW⟩ : ∃ W, W = w.alloc (tmO p t) := ⟨_, rfl⟩
  have hb : Below w.heap.size w W := by rw [hW]; exact below_alloc (Below.refl _ _) _
  have HX := Aside0.mk (show W.heap[w.heap.size]? = some (tmO p t) by rw [hW]; exact blk_new _ _)
  have HB := Aside0.mk hb
  clear hb
  unfold tmV
  unfold tmO at hW
  obtain ⟨tk, htk⟩ : ∃ x, t.kind = x := ⟨_, rfl⟩
  obtain ⟨L, hL⟩ : ∃ x, t.kids.length = x := ⟨_, rfl⟩
  obtain ⟨c0, c1, c2, c3, c4, c5, c6, c7⟩ := row8 HX.out
  rw [htk] at hW c0 ⊢
  rw [hL] at hW c7 hl ⊢
  obtain ⟨ar, har⟩ : ∃ x, x = arZ tk := ⟨_, rfl⟩
  have HR := Aside0.mk (show leafR t = decide (ar < 0 ∨ (L : Int) < ar) by unfold leafR; rw [htk, hL, har])
  have HAC := Aside0.mk (show ∀ w, Calls Try.prog 67 #[.int .i64 tk] w fun e w' => e = .returned (.int .i64 ar) ∧ w' = w from fun w => by rw [har]; exact refkids_calls _ _)
  clear htk hL har c1 c2 c3 c4 c5 c6
  go_enter Try.func66, Try.ntmps66
  go_upto_region 1 with (fail)
  rw [← hW]
  clear hW
  by_cases ha : ar < 0
  · have ha' : decide (ar < 0) = true := by simp [ha]
    have HZ := Aside0.mk (show leafR t = true by rw [HR.out]; exact decide_eq_true (.inl ha))
    go_quiet ((go_at_call 67; exact Calls.quiet_of_same (HAC.out _)))
    go_wp2
    go_ret
    rw [HZ.out]
    exact ⟨rfl, below_drewN HB.out _⟩
  · have ha' : decide (ar < 0) = false := by simp; omega
    have HZ := Aside0.mk (show leafR t = decide ((L : Int) < ar) by rw [HR.out]; exact decide_eq_decide.2 ⟨fun h => h.resolve_left ha, .inr⟩)
    go_quiet ((go_at_call 67; exact Calls.quiet_of_same (HAC.out _)))
    go_wp2
    go_ret
    rw [HZ.out]
    exact ⟨rfl, below_drewN HB.out _⟩
def CntPost (g : Nat) (w : World) (r : Bool × Int) (e : Ending) (w' : World) : Prop := e = .returned (.bool r.1) ∧ NumAt w' g r.2 ∧ Chg (fun k => k = g) w w'
theorem leafAt (t : Tm) (p : Pl) (w W : World) (B : Nat) (v : Value) (hv : v = tmV p t) (hl : t.kids.length ≤ 9223372036854775807) :
    Calls Try.prog 66 #[v] w fun e w' => e = .returned (.bool (leafR t)) ∧ Below w.heap.size w w' := hv ▸ refleaf_calls t p w hl
set_option maxRecDepth 100000 in
set_option maxHeartbeats 16000000 in
theorem refcount_calls (N : Nat) : ∀ (t : Tm), SizeOf.sizeOf t < N → ∀ (p : Pl) (d n : Int) (g B : Nat) (w : World), TmIn w B p t → NumAt w g n → B ≤ g → 0 ≤ n → n ≤ 20000 → 0 ≤ d → d ≤ 2001 →
    Calls Try.prog 65 #[tmV p t, .int .i64 d, .pointer (some ⟨g, 0, none⟩)] w (CntPost g w (cntP t d n)) := by
  induction N with
  | zero => intro t h; omega
  | succ N ih =>
    intro t hN p d n g B w hin hg hBg hn0 hn1 hd0 hd1
    have IH := Aside0.mk ih
    have HNN := Aside0.mk hN
    obtain ⟨W, hW⟩ : ∃ W, W = (w.setCell ⟨g, 0, none⟩ (.int .i64 (n + 1))).alloc (tmO p t) := ⟨_, rfl⟩
    have hz1 := blk_lt hg
    have cs := chg_set w g 0 (.int .i64 (n + 1))
    have hch : Chg (fun k => k = g) w W := by rw [hW]; exact chg_trans cs (chg_alloc _ _ _)
    have HCH := Aside0.mk hch
    have K1 := Aside0.mk (show NumAt W g (n + 1) by rw [hW]; exact (hg.set _).alloc _)
    have HX := Aside0.mk (show W.heap[w.heap.size]? = some (tmO p t) by rw [hW]; have := blk_new (w.setCell ⟨g, 0, none⟩ (.int .i64 (n + 1))) (tmO p t); simpa [World.setCell] using this)
    have hgz := hg.cell
    have hfz := blk_frozen hg 0
    have HIN := Aside0.mk (hin.stay (hch.below (fun k e => by omega) (by omega)))
    have hlen := hin.len
    have HKEEP := Aside0.mk (show ∀ (wr : World), Chg (fun k => k = g) w wr → ∀ j, j < B → wr.heap[j]? = W.heap[j]? from fun wr hc j hj => ((hc.block j (by omega) (by omega)).trans (hch.block j (by omega) (by omega)).symm))
    have hbd := cnt_bd _ t (Nat.lt_succ_self _) d n hn1
    have HBD := Aside0.mk hbd
    have HGZ := Aside0.mk (show w.heap.size + 1 ≤ W.heap.size by rw [hW]; simp [World.setCell])
    clear ih hN hin hg cs hch hbd
    obtain ⟨pA, pc, pB, pd, pK, pe⟩ := p
    dsimp only at hlen
    unfold tmV
    unfold tmO at hW
    dsimp only
    obtain ⟨c0, c1, c2, c3, c4, c5, c6, c7⟩ := row8 HX.out
    dsimp only at c5 c6 c7
    clear c1 c2 c3 c4 c5 c6
    obtain ⟨tk, htk⟩ : ∃ x, t.kind = x := ⟨_, rfl⟩
    obtain ⟨L, hL⟩ : ∃ x, t.kids.length = x := ⟨_, rfl⟩
    rw [htk] at hW c0 ⊢
    rw [hL] at hW c7 hlen ⊢
    have HTK := Aside0.mk htk
    have HL := Aside0.mk hL
    have hL9 : L ≤ 9223372036854775807 := by omega
    have HLEAF := Aside0.mk (show ∀ w, Calls Try.prog 66 #[.agg #[.int .i64 tk, .int .i64 t.num, .string t.name, .int .i64 t.lv.kind, .int .i64 t.lv.num, .slice pA t.lv.kids.length pc, .slice pB t.ls.length pd, .slice pK L pe]] w fun e w' => e = .returned (.bool (leafR t)) ∧ Below w.heap.size w w' from fun w => leafAt t ⟨pA, pc, pB, pd, pK, pe⟩ w w 0 _ (by rw [← htk, ← hL]; rfl) (by omega))
    have HX' := Aside0.mk (show W.heap[w.heap.size]? = some (.cells #[.int .i64 tk, .int .i64 t.num, .string t.name, .int .i64 t.lv.kind, .int .i64 t.lv.num, .slice pA t.lv.kids.length pc, .slice pB t.ls.length pd, .slice pK L pe] 27 (0, 0)) by rw [← htk, ← hL]; exact HX.out)
    clear htk hL HX
    go_enter Try.func65, Try.ntmps65
    go_upto_region 2 with (fail)
    rw [← hW]
    clear hW
    by_cases q : 2000 < d
    · have HE := Aside0.mk (cnt_deep (t := t) (n := n) q)
      go_wp2
      go_ret
      rw [HE.out]
      exact ⟨rfl, K1.out, HCH.out⟩
    · have Q := Aside0.mk q
      have q1 : d ≤ 2000 := by omega
      clear q
      cases hlf : leafR t with
      | true =>
        have HLF := Aside0.mk hlf
        have HE := Aside0.mk (cnt_leaf (n := n) Q.out hlf)
        clear hlf
        go_wp2_with (first
          | (refine wpList_load_row rfl 27 _ rfl w.heap.size rfl 27 _ (0, 0) _ HX'.out Try.underlying27 rfl (by kernel_rfl) ?_)
          | (go_at_call 66; go_must (refine (HLEAF.out _).mono ?_; rintro e w2 ⟨rfl, hb⟩; rw [HLF.out]; have HB2 := Aside0.mk hb; clear hb)))
        go_ret
        rw [HE.out]
        exact ⟨rfl, NumAt.below K1.out HB2.out, chg_trans HCH.out (Chg.of_below HB2.out)⟩
      | false =>
        have HLF := Aside0.mk hlf
        have HE := Aside0.mk (cnt_go (n := n) Q.out hlf)
        obtain ⟨hk1, hk2, hk3⟩ := nK_eq hlf
        obtain ⟨ar, har⟩ : ∃ x, nK t = x := ⟨_, rfl⟩
        have HNK := Aside0.mk har
        have HAC := Aside0.mk (show ∀ w, Calls Try.prog 67 #[.int .i64 tk] w fun e w' => e = .returned (.int .i64 (ar : Int)) ∧ w' = w from fun w => by rw [← har, hk1, HTK.out]; exact refkids_calls _ _)
        have har3 : ar ≤ 3 := by rw [← har]; exact nK_le3 t
        have harL : ar ≤ L := by rw [← har, ← HL.out]; exact nK_le t
        have hare : ar ≤ pe := by omega
        have hareI : (ar : Int) ≤ pe := by omega
        clear hlf hk1 hk2 hk3 har
        go_upto_region 6 with (first
          | (refine wpList_load_row rfl 27 _ rfl w.heap.size rfl 27 _ (0, 0) _ HX'.out Try.underlying27 rfl (by kernel_rfl) ?_)
          | (go_at_call 66; go_must (refine (HLEAF.out _).mono ?_; rintro e w2 ⟨rfl, hb⟩; rw [HLF.out]; have HB2 := Aside0.mk hb; have HX2 := Aside0.mk ((hb.block _ (blk_lt HX'.out)).trans HX'.out); clear hb)))
        clear c0 c7
        have c0 : w2.cell? ⟨w.heap.size, 0, none⟩ = some (.int .i64 tk) := by rw [cell_of_row _ _ _ _ _ _ HX2.out]; rfl
        have c7 : w2.cell? ⟨w.heap.size, 7, none⟩ = some (.slice pK L pe) := by rw [cell_of_row _ _ _ _ _ _ HX2.out]; rfl
        go_quiet ((go_at_call 67; exact Calls.quiet_of_same (HAC.out _)))
        have HCW := Aside0.mk (show Chg (fun k => k = g) w w2 from chg_trans HCH.out (Chg.of_below HB2.out))
        have HNW := Aside0.mk (NumAt.below K1.out HB2.out)
        clear c0 c7 K1 HCH HX' HLEAF HX2 HB2
        obtain ⟨qq, hq⟩ := HIN.out.kid
        have HQ := Aside0.mk hq
        clear hq
        go_wp2
        go_loopw [25] (fun i wr => ∃ (k : Nat) (m : Int), i = .int .i64 k ∧ k ≤ ar ∧ 0 ≤ m ∧ m ≤ 20001 ∧ Aside0 (runL (kidsC t d) ((List.finRange (nK t)).drop k) m = runL (kidsC t d) (List.finRange (nK t)) (n + 1)) ∧ Aside0 (NumAt wr g m) ∧ Aside0 (Chg (fun k => k = g) w wr)) (fun i _ => ar - (intOf i).toNat)
        case atStart => exact ⟨0, n + 1, rfl, Nat.zero_le _, by omega, by omega, ⟨by rw [List.drop_zero]⟩, ⟨HNW.out⟩, ⟨chg_drewN HCW.out _⟩⟩
        case round =>
          clear HCW HNW
          obtain ⟨k, m, rfl, hk, hm0, hm1, HK, HNM, HCM⟩ := hrel
          have kc := HNM.out.cell
          have kf := blk_frozen HNM.out 0
          have kz := blk_lt HNM.out
          by_cases hlt : k < ar
          · have hkn : k < nK t := by rw [HNK.out]; exact hlt
            have hx := kidF_get t ⟨k, hkn⟩
            have HDF := Aside0.mk (drop_fin hkn)
            obtain ⟨x, hxe⟩ : ∃ x, kidF t ⟨k, hkn⟩ = x := ⟨_, rfl⟩
            have HXL := Aside0.mk (show SizeOf.sizeOf x < SizeOf.sizeOf t by rw [← hxe]; exact kidF_lt t _)
            rw [hxe] at hx
            obtain ⟨⟨bk, o, hpK, hSb, hcells⟩, hxin⟩ := HQ.out k x hx
            try dsimp only at hpK
            have hbk : ∀ j v, (tmC (qq k) x)[j]? = some v → wr.cell? ⟨bk, o + k * 8 + j, none⟩ = some v := fun j v hv => (cell_same (HKEEP.out wr HCM.out bk hSb)).trans (hcells j v hv)
            have d0 := hbk 0 _ rfl
            have d1 := hbk 1 _ rfl
            have d2 := hbk 2 _ rfl
            have d3 := hbk 3 _ rfl
            have d4 := hbk 4 _ rfl
            have d5 := hbk 5 _ rfl
            have d6 := hbk 6 _ rfl
            have d7 := hbk 7 _ rfl
            rw [Nat.add_zero] at d0
            have HXIN := Aside0.mk (show TmIn wr B (qq k) x from TmS.same hxin fun j hj _ => HKEEP.out wr HCM.out j hj)
            have hbr : B ≤ wr.heap.size := by have := HCM.out.size; omega
            have HPK := Aside0.mk hpK
            rw [hpK]
            have HSTEP := Aside0.mk (show runL (kidsC t d) ((List.finRange (nK t)).drop k) m = if (kidsC t d ⟨k, hkn⟩ m).1 = true then runL (kidsC t d) ((List.finRange (nK t)).drop (k + 1)) (kidsC t d ⟨k, hkn⟩ m).2 else (false, (kidsC t d ⟨k, hkn⟩ m).2) by rw [HDF.out, runL])
            by_cases hm : 20000 < m
            · have HZ := Aside0.mk (show cntP t d n = (false, m) by
                have h1 : kidsC t d ⟨k, hkn⟩ m = (false, m) := if_pos hm
                have h2 := HSTEP.out
                rw [h1, if_neg (fun h => by cases h)] at h2
                rw [HE.out, ← HK.out, h2]; rfl)
              clear hcells hx hxin hbk hpK hkn hxe HSTEP HDF
              go_wp2
              go_ret
              rw [HZ.out]
              exact ⟨rfl, HNM.out.alloc _, chg_trans HCM.out (chg_alloc _ _ _)⟩
            · obtain ⟨ev, m2, hev⟩ : ∃ ev m2, cntP x (d + 1) m = (ev, m2) := ⟨_, _, rfl⟩
              have HEV := Aside0.mk hev
              have hkc : kidsC t d ⟨k, hkn⟩ m = (ev, m2) := by rw [← hev, ← hxe]; exact if_neg hm
              have hb2 := cnt_bd _ x (Nat.lt_succ_self _) (d + 1) m (by omega)
              rw [hev] at hb2
              obtain ⟨b1, b2⟩ := hb2
              simp only at b1 b2
              have HST := Aside0.mk (show runL (kidsC t d) ((List.finRange (nK t)).drop k) m = if ev = true then runL (kidsC t d) ((List.finRange (nK t)).drop (k + 1)) m2 else (false, m2) by have h := HSTEP.out; rw [hkc] at h; exact h)
              clear hcells hx hxin hbk hpK hkn hxe HSTEP HDF hev hkc
              cases ev with
              | true =>
                have HK2 := Aside0.mk ((HST.out.trans (if_pos rfl)).symm.trans HK.out)
                clear HST
                go_wp2_with (go_at_call 65; go_must (refine (IH.out x (by have := HXL.out; have := HNN.out; omega) (qq k) (d + 1) m g B _ (TmIn.stay HXIN.out ((Below.refl _ _).alloc (by omega) _)) (HNM.out.alloc _) (by omega) hm0 (by omega) (by omega) (by omega)).mono ?_; rintro e w3 ⟨rfl, hg1, hc1⟩; rw [HEV.out] at hg1 ⊢; have HG2 := Aside0.mk hg1; have HC3 := Aside0.mk (chg_trans HCM.out (chg_trans (chg_alloc _ _ _) hc1)); clear hg1 hc1))
                go_roundw
                case rel => exact ⟨k + 1, m2, by go_num, by omega, by omega, by omega, HK2, HG2, HC3⟩
                case measure => (simp [intOf]; try omega)
              | false =>
                have HZ := Aside0.mk (show cntP t d n = (false, m2) by rw [HE.out, ← HK.out, HST.out, if_neg (by decide)]; rfl)
                clear HST
                go_wp2_with (go_at_call 65; go_must (refine (IH.out x (by have := HXL.out; have := HNN.out; omega) (qq k) (d + 1) m g B _ (TmIn.stay HXIN.out ((Below.refl _ _).alloc (by omega) _)) (HNM.out.alloc _) (by omega) hm0 (by omega) (by omega) (by omega)).mono ?_; rintro e w3 ⟨rfl, hg1, hc1⟩; rw [HEV.out] at hg1 ⊢; have HG2 := Aside0.mk hg1; have HC3 := Aside0.mk (chg_trans HCM.out (chg_trans (chg_alloc _ _ _) hc1)); clear hg1 hc1))
                go_ret
                rw [HZ.out]
                exact ⟨rfl, HG2.out, HC3.out⟩
          · obtain rfl : k = ar := by omega
            have hlt' : decide ((k : Int) < k) = false := by simp
            have HZ := Aside0.mk (show cntP t d n = (decide (m ≤ 20000), m) by rw [HE.out, ← HK.out, List.drop_of_length_le (by rw [List.length_finRange, HNK.out]; exact Nat.le_refl _)]; rfl)
            go_wp2
            go_ret
            rw [HZ.out]
            exact ⟨rfl, HNM.out, HCM.out⟩
set_option maxHeartbeats 4000000 in
theorem tooGreat_calls (t : Tm) (p : Pl) (w : World) (hin : TmIn w w.heap.size p t) : Calls Try.prog 39 #[tmV p t] w fun e w' => e = .returned (.bool (!decide (okT t))) ∧ Below w.heap.size w w' := by
  have HIN := Aside0.mk hin
  obtain ⟨W, hW⟩ : ∃ W, W = (w.alloc (tmO p t)).alloc (.cells #[.int .i64 0] 3 (0, 0)) := ⟨_, rfl⟩
  have hb : Below w.heap.size w W := by rw [hW]; exact below_alloc (below_alloc (Below.refl _ _) _) _
  have HX := Aside0.mk (show W.heap[w.heap.size]? = some (tmO p t) by rw [hW]; exact blk_alloc (blk_new _ _) _)
  have HN1 := Aside0.mk (show NumAt W (w.heap.size + 1) 0 by rw [hW]; have := blk_new (w.alloc (tmO p t)) (.cells #[.int .i64 0] 3 (0, 0)); simp only [World.size_alloc] at this; exact this)
  have HB := Aside0.mk hb
  have HV := Aside0.mk (great_ok t)
  clear hin hb
  unfold tmV
  unfold tmO at hW
  go_enter Try.func39, Try.ntmps39
  go_upto_region 2 with (fail)
  rw [← hW]
  clear hW
  go_wp2_with (first
    | (refine wpList_load_row rfl 27 _ rfl w.heap.size rfl 27 _ (0, 0) _ HX.out Try.underlying27 rfl (by kernel_rfl) ?_)
    | (go_at_call 65; go_must (refine (refcount_calls _ t (Nat.lt_succ_self _) p 1 0 (w.heap.size + 1) w.heap.size W (HIN.out.stay HB.out) HN1.out (by omega) (by decide) (by decide) (by decide) (by decide)).mono ?_; rintro e w2 ⟨rfl, -, hC⟩; rw [HV.out]; have HB2 := Aside0.mk (Chg.trans_below HB.out hC (fun k h => by omega) HB.out.size); clear hC)))
  go_ret
  exact ⟨rfl, HB2.out⟩
end Go.Proofs.Ytcgkeolgflphiaa

/-! Dep -/
namespace Go.Proofs.Ytcgkeolgflphiaa
open Go.RowKit Go.Proofs.YtcgkeolgflphiaaW.PrintWords Go.RegionInvYtcgkeolgflphiaa

def maxD (t : Tm) (xs : List (Fin (nK t))) : Nat := (xs.map fun i => depthT (kidF t i)).foldr max 0
theorem depth_def (t : Tm) : depthT t = maxD t (List.finRange (nK t)) + 1 := by rw [depthT, Nat.add_comm]; rfl
theorem maxD_cons (t : Tm) (i : Fin (nK t)) (r : List (Fin (nK t))) : maxD t (i :: r) = max (depthT (kidF t i)) (maxD t r) := rfl
theorem max_if (m n : Nat) : (Value.int .i64 (if m < n then (n : Int) else m)) = .int .i64 ((max m n : Nat) : Int) := by congr 1; split <;> omega
/-- Depth: 0 of what is too great. -/
def depD (t : Tm) : Int := if okT t then depthT t else 0
set_option maxRecDepth 100000 in
set_option maxHeartbeats 16000000 in
theorem refdepth_calls (N : Nat) : ∀ (t : Tm), SizeOf.sizeOf t < N → ∀ (p : Pl) (B : Nat) (w : World), TmIn w B p t → B ≤ w.heap.size → depthT t ≤ 2000 →
    Calls Try.prog 40 #[tmV p t] w fun e w' => e = .returned (.int .i64 (depthT t)) ∧ Below w.heap.size w w' := by
  induction N with
  | zero => intro t h; omega
  | succ N ih =>
    intro t hN p B w hin hBz hdt
    have IH := Aside0.mk ih
    have HNN := Aside0.mk hN
    obtain ⟨W, hW⟩ : ∃ W, W = w.alloc (tmO p t) := ⟨_, rfl⟩
    have hb : Below w.heap.size w W := by rw [hW]; exact below_alloc (Below.refl _ _) _
    have HB := Aside0.mk hb
    have HX := Aside0.mk (show W.heap[w.heap.size]? = some (tmO p t) by rw [hW]; exact blk_new _ _)
    have HIN := Aside0.mk hin
    have hlen := hin.len
    have HDEF := Aside0.mk (depth_def t)
    have HDT := Aside0.mk hdt
    clear ih hN hin hb hdt
    obtain ⟨pA, pc, pB, pd, pK, pe⟩ := p
    dsimp only at hlen
    unfold tmV
    unfold tmO at hW
    dsimp only
    obtain ⟨tk, htk⟩ : ∃ x, t.kind = x := ⟨_, rfl⟩
    obtain ⟨L, hL⟩ : ∃ x, t.kids.length = x := ⟨_, rfl⟩
    rw [htk] at hW ⊢
    rw [hL] at hW hlen ⊢
    have HTK := Aside0.mk htk
    have HL := Aside0.mk hL
    have hL9 : L ≤ 9223372036854775807 := by omega
    have HLEAF := Aside0.mk (show ∀ w, Calls Try.prog 66 #[.agg #[.int .i64 tk, .int .i64 t.num, .string t.name, .int .i64 t.lv.kind, .int .i64 t.lv.num, .slice pA t.lv.kids.length pc, .slice pB t.ls.length pd, .slice pK L pe]] w fun e w' => e = .returned (.bool (leafR t)) ∧ Below w.heap.size w w' from fun w => leafAt t ⟨pA, pc, pB, pd, pK, pe⟩ w w 0 _ (by rw [← htk, ← hL]; rfl) (by omega))
    have HX' := Aside0.mk (show W.heap[w.heap.size]? = some (.cells #[.int .i64 tk, .int .i64 t.num, .string t.name, .int .i64 t.lv.kind, .int .i64 t.lv.num, .slice pA t.lv.kids.length pc, .slice pB t.ls.length pd, .slice pK L pe] 27 (0, 0)) by rw [← htk, ← hL]; exact HX.out)
    clear htk hL HX
    go_enter Try.func40, Try.ntmps40
    go_upto_region 2 with (fail)
    rw [← hW]
    clear hW
    cases hlf : leafR t with
    | true =>
      have HLF := Aside0.mk hlf
      have HE := Aside0.mk (depth_leaf (nK_leaf hlf))
      clear hlf
      go_wp2_with (first
        | (refine wpList_load_row rfl 27 _ rfl w.heap.size rfl 27 _ (0, 0) _ HX'.out Try.underlying27 rfl (by kernel_rfl) ?_)
        | (go_at_call 66; go_must (refine (HLEAF.out _).mono ?_; rintro e w2 ⟨rfl, hb⟩; rw [HLF.out]; have HB2 := Aside0.mk (below_then HB.out HB.out.size hb); clear hb)))
      go_ret
      rw [HE.out]
      exact ⟨rfl, HB2.out⟩
    | false =>
      have HLF := Aside0.mk hlf
      obtain ⟨hk1, hk2, hk3⟩ := nK_eq hlf
      obtain ⟨ar, har⟩ : ∃ x, nK t = x := ⟨_, rfl⟩
      have HNK := Aside0.mk har
      have HAC := Aside0.mk (show ∀ w, Calls Try.prog 67 #[.int .i64 tk] w fun e w' => e = .returned (.int .i64 (ar : Int)) ∧ w' = w from fun w => by rw [← har, hk1, HTK.out]; exact refkids_calls _ _)
      have har3 : ar ≤ 3 := by rw [← har]; exact nK_le3 t
      have harL : ar ≤ L := by rw [← har, ← HL.out]; exact nK_le t
      have hare : ar ≤ pe := by omega
      have hareI : (ar : Int) ≤ pe := by omega
      clear hlf hk1 hk2 hk3 har
      go_upto_region 3 with (first
        | (refine wpList_load_row rfl 27 _ rfl w.heap.size rfl 27 _ (0, 0) _ HX'.out Try.underlying27 rfl (by kernel_rfl) ?_)
        | (go_at_call 66; go_must (refine (HLEAF.out _).mono ?_; rintro e w2 ⟨rfl, hb⟩; rw [HLF.out]; have HB2 := Aside0.mk (below_then HB.out HB.out.size hb); have HX2 := Aside0.mk ((hb.block _ (blk_lt HX'.out)).trans HX'.out); clear hb)))
      have c0 : w2.cell? ⟨w.heap.size, 0, none⟩ = some (.int .i64 tk) := by rw [cell_of_row _ _ _ _ _ _ HX2.out]; rfl
      have c7 : w2.cell? ⟨w.heap.size, 7, none⟩ = some (.slice pK L pe) := by rw [cell_of_row _ _ _ _ _ _ HX2.out]; rfl
      go_quiet ((go_at_call 67; exact Calls.quiet_of_same (HAC.out _)))
      clear c0 c7 HX' HLEAF HX2 HB
      obtain ⟨qq, hq⟩ := HIN.out.kid
      have HQ := Aside0.mk hq
      clear hq
      go_wp2
      go_loopw [3, 16] (fun u i wr => ∃ (k m : Nat), i = .int .i64 k ∧ u = .int .i64 m ∧ k ≤ ar ∧ m ≤ 2000 ∧ Aside0 (max m (maxD t ((List.finRange (nK t)).drop k)) = maxD t (List.finRange (nK t))) ∧ Aside0 (Below w.heap.size w wr)) (fun _ i _ => ar - (intOf i).toNat)
      case atStart => exact ⟨0, 0, rfl, rfl, Nat.zero_le _, by omega, ⟨by rw [List.drop_zero]; exact Nat.max_eq_right (Nat.zero_le _)⟩, ⟨below_drewN HB2.out _⟩⟩
      case round =>
        clear HB2
        obtain ⟨k, m, rfl, rfl, hk, hm, HK, HBR⟩ := hrel
        by_cases hlt : k < ar
        · have hkn : k < nK t := by rw [HNK.out]; exact hlt
          have hx := kidF_get t ⟨k, hkn⟩
          have HDF := Aside0.mk (drop_fin hkn)
          have HDK := Aside0.mk (depth_kid t ⟨k, hkn⟩)
          obtain ⟨x, hxe⟩ : ∃ x, kidF t ⟨k, hkn⟩ = x := ⟨_, rfl⟩
          have HXL := Aside0.mk (show SizeOf.sizeOf x < SizeOf.sizeOf t by rw [← hxe]; exact kidF_lt t _)
          have HMC := Aside0.mk (maxD_cons t ⟨k, hkn⟩ ((List.finRange (nK t)).drop (k + 1)))
          rw [hxe] at hx HDK HMC
          obtain ⟨⟨bk, o, hpK, hSb, hcells⟩, hxin⟩ := HQ.out k x hx
          try dsimp only at hpK
          have hkeep : ∀ j, j < B → wr.heap[j]? = w.heap[j]? := fun j hj => HBR.out.block j (by omega)
          have hbk : ∀ j v, (tmC (qq k) x)[j]? = some v → wr.cell? ⟨bk, o + k * 8 + j, none⟩ = some v := fun j v hv => (cell_same (hkeep bk hSb)).trans (hcells j v hv)
          have d0 := hbk 0 _ rfl
          have d1 := hbk 1 _ rfl
          have d2 := hbk 2 _ rfl
          have d3 := hbk 3 _ rfl
          have d4 := hbk 4 _ rfl
          have d5 := hbk 5 _ rfl
          have d6 := hbk 6 _ rfl
          have d7 := hbk 7 _ rfl
          rw [Nat.add_zero] at d0
          have HXIN := Aside0.mk (show TmIn wr B (qq k) x from TmS.same hxin fun j hj _ => hkeep j hj)
          have hbr : B ≤ wr.heap.size := by have := HBR.out.size; omega
          have HPK := Aside0.mk hpK
          rw [hpK]
          obtain ⟨dx, hdx⟩ : ∃ dx, depthT x = dx := ⟨_, rfl⟩
          have hdx2 : dx ≤ 1999 := by have := HDK.out; have := HDT.out; rw [hdx] at *; omega
          have HDX := Aside0.mk hdx
          have HK2 := Aside0.mk (show max (max m dx) (maxD t ((List.finRange (nK t)).drop (k + 1))) = maxD t (List.finRange (nK t)) by rw [← HK.out, HDF.out, HMC.out, hdx, Nat.max_assoc])
          clear hcells hx hxin hbk hpK hxe HDF hkeep hdx HMC hkn
          go_wp2_with (go_at_call 40; go_must (refine (IH.out x (by have := HXL.out; have := HNN.out; omega) (qq k) B _ (TmIn.stay HXIN.out ((Below.refl _ _).alloc (by omega) _)) (by simp; omega) (by rw [HDX.out]; omega)).mono ?_; rintro e w3 ⟨rfl, hb⟩; rw [HDX.out]; have HB3 := Aside0.mk (show Below w.heap.size w w3 from Below.trans (below_alloc HBR.out _) (hb.mono (by have := HBR.out.size; simp; omega))); clear hb))
          all_goals
            go_roundw
            case rel => exact ⟨k + 1, max m dx, by go_num, by first | exact max_if m dx | (rw [Nat.max_eq_left (by omega)]) | (rw [Nat.max_eq_right (by omega)]), by omega, by omega, HK2, HB3⟩
            case measure => (simp [intOf]; try omega)
        · obtain rfl : k = ar := by omega
          have hlt' : decide ((k : Int) < k) = false := by simp
          have HZ := Aside0.mk (show depthT t = m + 1 by
            have h := HK.out
            rw [List.drop_of_length_le (by rw [List.length_finRange, HNK.out]; exact Nat.le_refl _)] at h
            rw [HDEF.out, ← h]
            show max m 0 + 1 = m + 1
            rw [Nat.max_eq_left (Nat.zero_le _)])
          go_wp2
          go_ret
          rw [HZ.out]
          exact ⟨by push_cast; rfl, HBR.out⟩
set_option maxHeartbeats 4000000 in
theorem refDepth_calls (t : Tm) (p : Pl) (w : World) (hin : TmIn w w.heap.size p t) : Calls Try.prog 17 #[tmV p t] w fun e w' => e = .returned (.int .i64 (depD t)) ∧ Below w.heap.size w w' := by
  have HIN := Aside0.mk hin
  obtain ⟨W, hW⟩ : ∃ W, W = w.alloc (tmO p t) := ⟨_, rfl⟩
  have hb : Below w.heap.size w W := by rw [hW]; exact below_alloc (Below.refl _ _) _
  have HX := Aside0.mk (show W.heap[w.heap.size]? = some (tmO p t) by rw [hW]; exact blk_new _ _)
  have HB := Aside0.mk hb
  clear hin hb
  unfold tmV
  unfold tmO at hW
  go_enter Try.func17, Try.ntmps17
  go_upto_region 1 with (fail)
  rw [← hW]
  clear hW
  by_cases hk : okT t
  · have HK := Aside0.mk hk
    have HR := Aside0.mk (show (!decide (okT t)) = false by simp [hk])
    have HV := Aside0.mk (show depD t = depthT t from if_pos hk)
    clear hk
    go_wp2_with (first
      | (refine wpList_load_row rfl 27 _ rfl w.heap.size rfl 27 _ (0, 0) _ HX.out Try.underlying27 rfl (by kernel_rfl) ?_)
      | (refine wpList_load_row rfl 27 _ rfl w.heap.size rfl 27 _ (0, 0) _ HX1.out Try.underlying27 rfl (by kernel_rfl) ?_)
      | (go_at_call 39; go_must (refine (tooGreat_calls t p W (TmS.all (HIN.out.stay HB.out))).mono ?_; rintro e w1 ⟨rfl, hb⟩; rw [HR.out]; have HX1 := Aside0.mk ((hb.block _ (blk_lt HX.out)).trans HX.out); have HB1 := Aside0.mk (below_then HB.out HB.out.size hb); clear hb))
      | (go_at_call 40; go_must (refine (refdepth_calls _ t (Nat.lt_succ_self _) p w1.heap.size w1 (TmS.all (HIN.out.stay HB1.out)) (Nat.le_refl _) HK.out.2).mono ?_; rintro e w2 ⟨rfl, hb⟩; have HB2 := Aside0.mk (below_then HB1.out HB1.out.size hb); clear hb)))
    go_ret
    rw [HV.out]
    exact ⟨rfl, HB2.out⟩
  · have HR := Aside0.mk (show (!decide (okT t)) = true by simp [hk])
    have HV := Aside0.mk (show depD t = 0 from if_neg hk)
    clear hk
    go_wp2_with (first
      | (refine wpList_load_row rfl 27 _ rfl w.heap.size rfl 27 _ (0, 0) _ HX.out Try.underlying27 rfl (by kernel_rfl) ?_)
      | (go_at_call 39; go_must (refine (tooGreat_calls t p W (TmS.all (HIN.out.stay HB.out))).mono ?_; rintro e w1 ⟨rfl, hb⟩; rw [HR.out]; have HB1 := Aside0.mk (below_then HB.out HB.out.size hb); clear hb)))
    go_ret
    rw [HV.out]
    exact ⟨rfl, HB1.out⟩
end Go.Proofs.Ytcgkeolgflphiaa

/-! WireP -/
namespace Go.Proofs.Ytcgkeolgflphiaa
open Go.RowKit Go.Proofs.YtcgkeolgflphiaaW.PrintWords

def Bytes (xs : List Int) : Prop := ∀ x ∈ xs, 0 ≤ x ∧ x ≤ 255
theorem Bytes.at_ {xs : List Int} (h : Bytes xs) (i : Int) : 0 ≤ rd xs i ∧ rd xs i ≤ 255 := by
  unfold rd
  rw [List.getD_eq_getElem?_getD]
  cases e : xs[i.toNat]? with
  | none => simp
  | some v => exact h v (List.mem_of_getElem? e)
theorem Bytes.append {xs ys : List Int} (h : Bytes xs) (k : Bytes ys) : Bytes (xs ++ ys) := fun x hx => (List.mem_append.1 hx).elim (h x) (k x)
theorem Bytes.drop {xs : List Int} (h : Bytes xs) (n : Nat) : Bytes (xs.drop n) := fun x hx => h x (List.mem_of_mem_drop hx)
theorem Bytes.take {xs : List Int} (h : Bytes xs) (n : Nat) : Bytes (xs.take n) := fun x hx => h x (List.mem_of_mem_take hx)
theorem Bytes.nil : Bytes [] := fun x hx => by cases hx

theorem u8_or128_add {a : Int} (h0 : 0 ≤ a) (h1 : a < 256) : Go.bits .or .u8 a 128 = a % 128 + 128 := by
  obtain ⟨n, rfl⟩ := Int.eq_ofNat_of_zero_le h0
  rw [show (128 : Int) = ((128 : Nat) : Int) from rfl, u8_or_nat n 128 (by omega) (by omega)]
  have hn : n < 256 := by omega
  have : n ||| 128 = n % 128 + 128 := by
    have h : ∀ m : Fin 256, (m.1 ||| 128) = m.1 % 128 + 128 := by decide +kernel
    exact h ⟨n, hn⟩
  rw [this]; omega

/-! ### Put -/
def putN (n : Int) : List Int :=
  if h : 128 ≤ n then (n % 128 + 128) :: putN (n / 128) else [n]
termination_by n.toNat
decreasing_by omega
theorem putN_ge {n : Int} (h : 128 ≤ n) : putN n = (n % 128 + 128) :: putN (n / 128) := by rw [putN]; simp [h]
theorem putN_lt {n : Int} (h : n < 128) : putN n = [n] := by rw [putN]; simp [show ¬ 128 ≤ n by omega]
theorem putN_ne (n : Int) : putN n ≠ [] := by rw [putN]; split <;> simp
theorem putN_len (k : Nat) : ∀ n : Int, n < 128 ^ (k+1) → (putN n).length ≤ k + 1 := by
  induction k with
  | zero => intro n h; rw [putN_lt (by omega)]; simp
  | succ k ih =>
    intro n h
    by_cases h' : 128 ≤ n
    · rw [putN_ge h']
      have := ih (n / 128) (by rw [Int.pow_succ] at h; omega)
      simp; omega
    · rw [putN_lt (by omega)]; simp
theorem putN_len10 {n : Int} (h : n ≤ 18446744073709551615) : (putN n).length ≤ 10 := putN_len 9 n (by omega)
theorem putN_pos (n : Int) : 1 ≤ (putN n).length := by
  have := putN_ne n
  cases h : putN n with
  | nil => exact absurd h this
  | cons _ _ => simp
theorem putN_bytes (k : Nat) : ∀ n : Int, n < 128 ^ (k+1) → 0 ≤ n → Bytes (putN n) := by
  induction k with
  | zero => intro n h h0; rw [putN_lt (by omega)]; intro x hx; simp at hx; omega
  | succ k ih =>
    intro n h h0
    by_cases h' : 128 ≤ n
    · rw [putN_ge h']
      have := ih (n / 128) (by rw [Int.pow_succ] at h; omega) (by omega)
      intro x hx
      rcases List.mem_cons.1 hx with rfl | hx
      · omega
      · exact this x hx
    · rw [putN_lt (by omega)]; intro x hx; simp at hx; omega
theorem putN_bytes10 {n : Int} (h : n ≤ 18446744073709551615) (h0 : 0 ≤ n) : Bytes (putN n) := putN_bytes 9 n (by omega) h0

/-! ### Take -/
def lead : List Int → Nat
  | [] => 0
  | b :: r => if 128 ≤ b then lead r + 1 else 0
theorem lead_le (xs : List Int) : lead xs ≤ xs.length := by
  induction xs with
  | nil => simp [lead]
  | cons b r ih => simp only [lead]; split <;> simp <;> omega
theorem lead_at {xs : List Int} {k : Nat} (h : k < xs.length) (ha : ∀ j, j < k → 128 ≤ xs.getD j 0) : (128 ≤ xs.getD k 0 → k < lead xs) ∧ (xs.getD k 0 < 128 → lead xs = k) := by
  induction xs generalizing k with
  | nil => simp at h
  | cons b r ih =>
    cases k with
    | zero =>
      simp only [lead, List.getD_cons_zero]
      refine ⟨fun hb => ?_, fun hb => ?_⟩
      · rw [if_pos hb]; omega
      · rw [if_neg (by omega)]
    | succ k =>
      have hb : 128 ≤ b := by simpa using ha 0 (by omega)
      have := ih (k := k) (by simpa using h) (fun j hj => by simpa using ha (j+1) (by omega))
      simp only [lead, hb, if_true, List.getD_cons_succ]
      exact ⟨fun h => by have := this.1 h; omega, fun h => by have := this.2 h; omega⟩
theorem lead_all {xs : List Int} (ha : ∀ j, j < xs.length → 128 ≤ xs.getD j 0) : lead xs = xs.length := by
  induction xs with
  | nil => rfl
  | cons b r ih =>
    have hb : 128 ≤ b := by simpa using ha 0 (by simp)
    simp only [lead, hb, if_true, List.length_cons]
    rw [ih (fun j hj => by simpa using ha (j+1) (by simpa using hj))]
theorem lead_ge : ∀ {xs : List Int} {j : Nat}, j < lead xs → 128 ≤ xs.getD j 0 := by
  intro xs
  induction xs with
  | nil => intro j hj; simp [lead] at hj
  | cons c s ih =>
    intro j hj
    by_cases hc : 128 ≤ c
    · simp only [lead, hc, if_true] at hj
      cases j with
      | zero => simpa using hc
      | succ j => rw [List.getD_cons_succ]; exact ih (by omega)
    · simp [lead, hc] at hj
theorem lead_stop {xs : List Int} (h : lead xs < xs.length) : xs[lead xs] < 128 := by
  rcases Int.lt_or_le xs[lead xs] 128 with h' | h'
  · exact h'
  · have := (lead_at h (fun j hj => lead_ge hj)).1
    rw [List.getD_eq_getElem?_getD, List.getElem?_eq_getElem h] at this
    have := this h'; omega
def numOf : List Int → Int
  | [] => 0
  | b :: r => numOf r * 128 + b % 128
theorem numOf_nonneg (xs : List Int) : 0 ≤ numOf xs := by
  induction xs with
  | nil => simp [numOf]
  | cons b r ih => simp only [numOf]; omega
theorem numOf_lt (xs : List Int) : numOf xs < 128 ^ xs.length := by
  induction xs with
  | nil => simp [numOf]
  | cons b r ih => simp only [numOf, List.length_cons, Int.pow_succ]; omega
theorem numOf_drop (j : Nat) : ∀ xs : List Int, numOf (xs.drop j) * 128 ^ j ≤ numOf xs := by
  induction j with
  | zero => intro xs; simp
  | succ j ih =>
    intro xs
    cases xs with
    | nil => simp [numOf]
    | cons b r =>
      have := ih r
      simp only [List.drop_succ_cons, numOf, Int.pow_succ]
      rw [← Int.mul_assoc]
      omega
/-- What the code refuses. -/
def badN (xs : List Int) : Prop := 9 < lead xs ∨ (lead xs = 9 ∧ 1 < rd xs 9) ∨ (0 < lead xs ∧ rd xs (lead xs : Int) = 0)
instance (xs : List Int) : Decidable (badN xs) := by unfold badN; exact inferInstance
def takeN (xs : List Int) : Int × Int × Int :=
  if lead xs = xs.length then (0, 0, 3) else if badN xs then (0, 0, 4) else (numOf (xs.take (lead xs + 1)), (lead xs : Int) + 1, 0)
theorem takeN_short {xs : List Int} (h : lead xs = xs.length) : takeN xs = (0, 0, 3) := by unfold takeN; rw [if_pos h]
theorem takeN_bad {xs : List Int} (h : lead xs ≠ xs.length) (hb : badN xs) : takeN xs = (0, 0, 4) := by unfold takeN; rw [if_neg h, if_pos hb]
theorem takeN_ok {xs : List Int} (h : lead xs ≠ xs.length) (hb : ¬ badN xs) : takeN xs = (numOf (xs.take (lead xs + 1)), (lead xs : Int) + 1, 0) := by unfold takeN; rw [if_neg h, if_neg hb]
theorem rd_nat (xs : List Int) (j : Nat) : rd xs (j : Int) = xs.getD j 0 := by simp [rd]
theorem numOf_take10 (xs : List Int) : numOf (xs.take 10) = numOf (xs.take 9) + (rd xs 9 % 128) * 128 ^ 9 := by
  rcases xs with _ | ⟨a0, _ | ⟨a1, _ | ⟨a2, _ | ⟨a3, _ | ⟨a4, _ | ⟨a5, _ | ⟨a6, _ | ⟨a7, _ | ⟨a8, _ | ⟨a9, r⟩⟩⟩⟩⟩⟩⟩⟩⟩⟩ <;> simp [numOf, rd] <;> omega
theorem numOf_small {xs : List Int} (hB : Bytes xs) (h1 : lead xs < xs.length) (h2 : ¬ badN xs) : numOf (xs.take (lead xs + 1)) ≤ 18446744073709551615 := by
  unfold badN at h2
  by_cases h9 : lead xs = 9
  · rw [h9, numOf_take10]
    have h3 := numOf_lt (xs.take 9)
    have h4 : (xs.take 9).length ≤ 9 := by simp; omega
    have h5 : (128 : Int) ^ (xs.take 9).length ≤ 128 ^ 9 := by
      have := Nat.pow_le_pow_right (n := 128) (by omega) h4
      exact_mod_cast this
    have h6 := hB.at_ 9
    have h7 : ¬ 1 < rd xs 9 := fun h => h2 (.inr (.inl ⟨h9, h⟩))
    have : rd xs 9 % 128 ≤ 1 := by omega
    omega
  · have h8 : lead xs + 1 ≤ 9 := by omega
    have h3 := numOf_lt (xs.take (lead xs + 1))
    have h4 : (xs.take (lead xs + 1)).length ≤ 9 := by simp; omega
    have h5 : (128 : Int) ^ (xs.take (lead xs + 1)).length ≤ 128 ^ 9 := by
      have := Nat.pow_le_pow_right (n := 128) (by omega) h4
      exact_mod_cast this
    omega

theorem u64_or_add {a z : Int} (h0 : 0 ≤ a) (h1 : a * 128 ≤ 18446744073709551615) (h2 : 0 ≤ z) (h3 : z < 128) : Go.bits .or .u64 (a * 128) z = a * 128 + z := by
  obtain ⟨n, rfl⟩ := Int.eq_ofNat_of_zero_le h0
  obtain ⟨m, rfl⟩ := Int.eq_ofNat_of_zero_le h2
  rw [show ((n : Int) * 128) = ((n * 128 : Nat) : Int) by simp, u64_or_nat _ _ (by omega) (by omega), nat_join 7 _ _ (by omega) (by omega)]
  simp
theorem u8_and127 {z : Int} (h0 : 0 ≤ z) (h1 : z ≤ 255) : Go.bits .and .u8 z 127 = z % 128 := by
  obtain ⟨n, rfl⟩ := Int.eq_ofNat_of_zero_le h0
  rw [show (127 : Int) = ((127 : Nat) : Int) from rfl, u8_and_nat n 127 (by omega) (by omega), nat_mask7]
  simp
theorem numOf_step (xs : List Int) (k j : Nat) (hj : j ≤ k) (hk : k < xs.length) (hs : numOf (xs.take (k + 1)) ≤ 18446744073709551615) :
    numOf ((xs.take (k + 1)).drop (j + 1)) * 128 ≤ 18446744073709551615 ∧
    numOf ((xs.take (k + 1)).drop j) = numOf ((xs.take (k + 1)).drop (j + 1)) * 128 + rd xs (j : Int) % 128 := by
  have hlen : j < (xs.take (k + 1)).length := by simp; omega
  have e : (xs.take (k + 1)).drop j = rd xs (j : Int) :: (xs.take (k + 1)).drop (j + 1) := by
    rw [List.drop_eq_getElem_cons hlen, rd_nat, List.getElem_take, List.getD_eq_getElem?_getD, List.getElem?_eq_getElem (by omega)]; rfl
  refine ⟨?_, by rw [e]; rfl⟩
  have h1 := numOf_drop j (xs.take (k + 1))
  rw [e] at h1
  simp only [numOf] at h1
  have h3 := numOf_nonneg ((xs.take (k + 1)).drop (j + 1))
  have h4 : (1 : Int) ≤ 128 ^ j := by
    have := Nat.pow_pos (n := j) (show 0 < 128 by omega)
    exact_mod_cast this
  have h5 : (numOf ((xs.take (k + 1)).drop (j + 1)) * 128 + rd xs (j : Int) % 128) * 1 ≤ (numOf ((xs.take (k + 1)).drop (j + 1)) * 128 + rd xs (j : Int) % 128) * 128 ^ j := Int.mul_le_mul_of_nonneg_left h4 (by omega)
  omega

/-! ### One way alone -/
theorem lead_put (k : Nat) : ∀ (n : Int) (ys : List Int), 0 ≤ n → n < 128 ^ (k+1) → lead (putN n ++ ys) + 1 = (putN n).length := by
  induction k with
  | zero => intro n ys h0 h; rw [putN_lt (by omega)]; simp [lead]; omega
  | succ k ih =>
    intro n ys h0 h
    by_cases h' : 128 ≤ n
    · rw [putN_ge h']
      have := ih (n / 128) ys (by omega) (by rw [Int.pow_succ] at h; omega)
      simp only [List.cons_append, lead, List.length_cons]
      rw [if_pos (by omega)]; omega
    · rw [putN_lt (by omega)]; simp [lead]; omega
theorem numOf_put (k : Nat) : ∀ (n : Int), 0 ≤ n → n < 128 ^ (k+1) → numOf (putN n) = n := by
  induction k with
  | zero => intro n h0 h; rw [putN_lt (by omega)]; simp [numOf]; omega
  | succ k ih =>
    intro n h0 h
    by_cases h' : 128 ≤ n
    · rw [putN_ge h']
      have := ih (n / 128) (by omega) (by rw [Int.pow_succ] at h; omega)
      simp only [numOf, this]; omega
    · rw [putN_lt (by omega)]; simp [numOf]; omega
/-- The last byte is none of 0, but of 0 itself; of ten it is 1. -/
theorem last_put (k : Nat) : ∀ (n : Int), 0 ≤ n → n < 128 ^ (k+1) → (putN n).length = 1 ∨ 1 ≤ (putN n).getD ((putN n).length - 1) 0 := by
  induction k with
  | zero => intro n h0 h; rw [putN_lt (by omega)]; simp
  | succ k ih =>
    intro n h0 h
    by_cases h' : 128 ≤ n
    · rw [putN_ge h']
      have hp := putN_pos (n / 128)
      right
      have := ih (n / 128) (by omega) (by rw [Int.pow_succ] at h; omega)
      simp only [List.length_cons, Nat.add_sub_cancel]
      obtain ⟨m, hm⟩ : ∃ m, (putN (n/128)).length = m + 1 := ⟨(putN (n/128)).length - 1, by omega⟩
      rw [hm, List.getD_cons_succ]
      rw [hm] at this
      rcases this with h1 | h1
      · obtain rfl : m = 0 := by omega
        by_cases h2 : 128 ≤ n / 128
        · rw [putN_ge h2] at hm ⊢; simp; omega
        · rw [putN_lt (by omega)]; simp; omega
      · simpa using h1
    · rw [putN_lt (by omega)]; simp
theorem putN_top (k : Nat) : ∀ (n : Int), 0 ≤ n → n < 128 ^ (k+1) → (putN n).length = k + 2 - 1 → (putN n).getD k 0 * 128 ^ k ≤ n := by
  induction k with
  | zero => intro n h0 h _; rw [putN_lt (by omega)]; simp
  | succ k ih =>
    intro n h0 h hl
    by_cases h' : 128 ≤ n
    · rw [putN_ge h'] at hl ⊢
      have := ih (n / 128) (by omega) (by rw [Int.pow_succ] at h; omega) (by simp at hl; omega)
      rw [List.getD_cons_succ, Int.pow_succ, ← Int.mul_assoc]
      omega
    · rw [putN_lt (by omega)] at hl; simp at hl
theorem take_put {n : Int} (ys : List Int) (h0 : 0 ≤ n) (h1 : n ≤ 18446744073709551615) : takeN (putN n ++ ys) = (n, ((putN n).length : Int), 0) := by
  have hk : n < 128 ^ (9+1) := by omega
  have hl := lead_put 9 n ys h0 hk
  have hp := putN_pos n
  have hr : ∀ j, j < (putN n).length → (putN n ++ ys).getD j 0 = (putN n).getD j 0 := fun j hj => by
    simp [List.getD_eq_getElem?_getD, List.getElem?_append_left hj]
  unfold takeN
  rw [if_neg (by simp; omega), if_neg, hl, List.take_left, numOf_put 9 n h0 hk]
  · congr 2; omega
  · unfold badN
    have h10 := putN_len10 h1
    rintro (h | ⟨h, h'⟩ | ⟨h, h'⟩)
    · omega
    · rw [show (9 : Int) = ((9 : Nat) : Int) from rfl, rd_nat, hr 9 (by omega)] at h'
      have := putN_top 9 n h0 hk (by omega)
      omega
    · rw [rd_nat, hr _ (by omega)] at h'
      rcases last_put 9 n h0 hk with h2 | h2
      · omega
      · rw [show (putN n).length - 1 = lead (putN n ++ ys) by omega] at h2; omega
theorem put_take_aux : ∀ (xs : List Int), Bytes xs → lead xs < xs.length → (0 < lead xs → rd xs (lead xs : Int) ≠ 0) → putN (numOf (xs.take (lead xs + 1))) = xs.take (lead xs + 1) := by
  intro xs
  induction xs with
  | nil => intro _ h; simp [lead] at h
  | cons b r ih =>
    intro hB h1 h2
    have hb := hB b (by simp)
    by_cases h : 128 ≤ b
    · have hl : lead (b :: r) = lead r + 1 := by simp [lead, h]
      rw [hl] at h1 h2 ⊢
      have h3 : rd r (lead r : Int) ≠ 0 := by
        have := h2 (by omega)
        rw [rd_nat] at this ⊢
        simpa using this
      have := ih (fun x hx => hB x (List.mem_cons_of_mem _ hx)) (by simpa using h1) (fun _ => h3)
      simp only [List.take_succ_cons, numOf]
      have hpos : 1 ≤ numOf (r.take (lead r + 1)) := by
        have h4 := numOf_drop (lead r) (r.take (lead r + 1))
        have h5 : lead r < r.length := by simpa using h1
        rw [List.drop_take, show lead r + 1 - lead r = 1 by omega] at h4
        rw [List.drop_eq_getElem_cons h5] at h4
        simp only [List.take_succ_cons, List.take_zero, numOf] at h4
        have h6 : r[lead r] < 128 := lead_stop h5
        have h7 : r[lead r] ≠ 0 := by
          rw [rd_nat, List.getD_eq_getElem?_getD, List.getElem?_eq_getElem h5] at h3; simpa using h3
        have h8 := hB r[lead r] (List.mem_cons_of_mem _ (List.getElem_mem h5))
        have h9 : (1 : Int) ≤ 128 ^ lead r := by
          have := Nat.pow_pos (n := lead r) (show 0 < 128 by omega)
          exact_mod_cast this
        have h10 : r[lead r] % 128 = r[lead r] := by omega
        rw [h10] at h4
        have h11 : 1 * 1 ≤ (0 * 128 + r[lead r]) * 128 ^ lead r := Int.mul_le_mul (by omega) h9 (by omega) (by omega)
        omega
      rw [putN_ge (by omega)]
      have e1 : (numOf (r.take (lead r + 1)) * 128 + b % 128) / 128 = numOf (r.take (lead r + 1)) := by omega
      have e2 : (numOf (r.take (lead r + 1)) * 128 + b % 128) % 128 + 128 = b := by omega
      rw [e1, e2, this]
    · have hl : lead (b :: r) = 0 := by simp [lead, h]
      rw [hl]
      simp only [Nat.zero_add, List.take_succ_cons, List.take_zero, numOf]
      rw [putN_lt (by omega)]
      congr 1; omega
theorem put_take {xs : List Int} {m k : Int} (hB : Bytes xs) (h : takeN xs = (m, k, 0)) : putN m = xs.take k.toNat ∧ 0 ≤ m ∧ m ≤ 18446744073709551615 ∧ 1 ≤ k ∧ k ≤ xs.length := by
  unfold takeN at h
  split at h
  · cases h
  · rename_i h1
    have hle := lead_le xs
    split at h
    · cases h
    · rename_i h2
      injection h with h3 h4
      injection h4 with h4 _
      subst h3 h4
      have h5 := put_take_aux xs hB (by omega) (fun hp he => h2 (.inr (.inr ⟨hp, he⟩)))
      refine ⟨?_, numOf_nonneg _, numOf_small hB (by omega) h2, by omega, by omega⟩
      rw [h5]; congr 1
/-- Cut off it is short. -/
theorem take_cut {n : Int} (h0 : 0 ≤ n) (h1 : n ≤ 18446744073709551615) (j : Nat) (hj : j < (putN n).length) : takeN ((putN n).take j) = (0, 0, 3) := by
  have key : ∀ (k : Nat) (n : Int), n < 128 ^ (k+1) → ∀ j, j < (putN n).length → lead ((putN n).take j) = ((putN n).take j).length := by
    intro k
    induction k with
    | zero =>
      intro n h j hj
      rw [putN_lt (by omega)] at hj ⊢
      have e : j = 0 := by simpa using hj
      rw [e]; rfl
    | succ k ih =>
      intro n h j hj
      by_cases h' : 128 ≤ n
      · rw [putN_ge h'] at hj ⊢
        cases j with
        | zero => rfl
        | succ j =>
          have := ih (n / 128) (by rw [Int.pow_succ] at h; omega) j (by simpa using hj)
          simp only [List.take_succ_cons, lead, List.length_cons]
          rw [if_pos (by omega), this]
      · rw [putN_lt (by omega)] at hj ⊢
        have e : j = 0 := by simpa using hj
        rw [e]; rfl
  unfold takeN
  rw [if_pos (key 9 n (by omega) j hj)]

/-! ### With a sign -/
def zig (n : Int) : Int := if 0 ≤ n then 2 * n else -2 * n - 1
def zag (u : Int) : Int := if u % 2 = 1 then -(u / 2) - 1 else u / 2
theorem zag_zig (n : Int) : zag (zig n) = n := by unfold zig zag; split <;> split <;> omega
theorem zig_range {n : Int} (h0 : -9223372036854775808 ≤ n) (h1 : n ≤ 9223372036854775807) : 0 ≤ zig n ∧ zig n ≤ 18446744073709551615 := by unfold zig; split <;> omega
theorem u64_xor_zero {a : Int} (h0 : 0 ≤ a) (h1 : a ≤ 18446744073709551615) : Go.bits .xor .u64 a 0 = a := by
  obtain ⟨n, rfl⟩ := Int.eq_ofNat_of_zero_le h0
  rw [show (0 : Int) = ((0 : Nat) : Int) from rfl, u64_xor_nat n 0 (by omega) (by omega)]; simp
theorem nat_xor_all (n : Nat) (h : n < 18446744073709551616) : n ^^^ 18446744073709551615 = 18446744073709551615 - n := by
  have h1 : (BitVec.ofNat 64 n ^^^ BitVec.allOnes 64).toNat = (~~~ (BitVec.ofNat 64 n)).toNat := by rw [BitVec.xor_allOnes]
  rw [BitVec.toNat_xor, BitVec.toNat_allOnes, BitVec.toNat_not, BitVec.toNat_ofNat] at h1
  have h2 : n % 2 ^ 64 = n := Nat.mod_eq_of_lt (by omega)
  rw [h2] at h1
  have h3 : (2 : Nat) ^ 64 - 1 = 18446744073709551615 := by decide
  rw [h3] at h1
  omega
theorem zig_bits {x : Int} (h0 : -9223372036854775808 ≤ x) (h1 : x ≤ 9223372036854775807) :
    Go.bits .xor .u64 (IntKind.u64.wrap (IntKind.u64.wrap x * 2)) (IntKind.u64.wrap (x / 9223372036854775808)) = zig x := by
  simp only [IntKind.wrap_u64]
  unfold zig
  by_cases h : 0 ≤ x
  · rw [if_pos h, show x / 9223372036854775808 = 0 by omega, show x % 18446744073709551616 * 2 % 18446744073709551616 = 2 * x by omega]
    exact u64_xor_zero (by omega) (by omega)
  · rw [if_neg h, show x / 9223372036854775808 % 18446744073709551616 = 18446744073709551615 by omega]
    obtain ⟨n, hn⟩ := Int.eq_ofNat_of_zero_le (show 0 ≤ x % 18446744073709551616 * 2 % 18446744073709551616 by omega)
    rw [hn, show (18446744073709551615 : Int) = ((18446744073709551615 : Nat) : Int) from rfl, u64_xor_nat _ _ (by omega) (by omega), nat_xor_all n (by omega)]
    omega
theorem u64_and1 {u : Int} (h0 : 0 ≤ u) (h1 : u ≤ 18446744073709551615) : Go.bits .and .u64 u 1 = u % 2 := by
  obtain ⟨n, rfl⟩ := Int.eq_ofNat_of_zero_le h0
  rw [show (1 : Int) = ((1 : Nat) : Int) from rfl, u64_and_nat n 1 (by omega) (by omega), nat_mask1]; simp
theorem i64_bv {a : Int} (h0 : 0 ≤ a) (h1 : a ≤ 9223372036854775807) : (BitVec.ofInt 64 a).toNat = a.toNat := by
  rw [BitVec.toNat_ofInt]; simp; omega
theorem i64_xor_zero {a : Int} (h0 : 0 ≤ a) (h1 : a ≤ 9223372036854775807) : Go.bits .xor .i64 a 0 = a := by
  show IntKind.i64.wrap (((BitVec.ofInt 64 a ^^^ BitVec.ofInt 64 0).toNat : Nat) : Int) = a
  rw [show BitVec.ofInt 64 0 = 0#64 from rfl, BitVec.xor_zero, i64_bv h0 h1, IntKind.wrap_i64]
  omega
theorem i64_xor_neg {a : Int} (h0 : 0 ≤ a) (h1 : a ≤ 9223372036854775807) : Go.bits .xor .i64 a (-1) = -a - 1 := by
  show IntKind.i64.wrap (((BitVec.ofInt 64 a ^^^ BitVec.ofInt 64 (-1)).toNat : Nat) : Int) = -a - 1
  rw [show BitVec.ofInt 64 (-1) = BitVec.allOnes 64 by decide, BitVec.xor_allOnes, BitVec.toNat_not, i64_bv h0 h1, IntKind.wrap_i64]
  omega
theorem u64_and127 {u : Int} (h0 : 0 ≤ u) (h1 : u ≤ 18446744073709551615) : Go.bits .and .u64 u 127 = u % 128 := by
  obtain ⟨n, rfl⟩ := Int.eq_ofNat_of_zero_le h0
  rw [show (127 : Int) = ((127 : Nat) : Int) from rfl, u64_and_nat n 127 (by omega) (by omega), nat_mask7]; simp
theorem zig_or {x : Int} (h0 : -9223372036854775808 ≤ x) (h1 : x < 0) : Go.bits .or .u64 (-(x + 1) * 2) 1 = -2 * x - 1 := by
  obtain ⟨n, hn⟩ := Int.eq_ofNat_of_zero_le (show 0 ≤ -(x + 1) by omega)
  rw [hn, show ((n : Int) * 2) = ((n * 2 : Nat) : Int) by simp, show (1 : Int) = ((1 : Nat) : Int) from rfl, u64_or_nat _ _ (by omega) (by omega), nat_join 1 _ _ (by omega) (by omega)]
  omega
theorem zag_bits {u : Int} (h0 : 0 ≤ u) (h1 : u ≤ 18446744073709551615) :
    Go.bits .xor .i64 (wrap64 (u / 2)) (wrap64 (-wrap64 (Go.bits .and .u64 u 1))) = zag u := by
  rw [u64_and1 h0 h1]
  have e1 : wrap64 (u / 2) = u / 2 := by unfold wrap64; omega
  have e2 : wrap64 (-wrap64 (u % 2)) = -(u % 2) := by unfold wrap64; omega
  rw [e1, e2]
  unfold zag
  split
  · rename_i h; rw [h]; exact i64_xor_neg (by omega) (by omega)
  · rw [show u % 2 = 0 by omega]; exact i64_xor_zero (by omega) (by omega)
theorem takeN_cases {xs : List Int} (hB : Bytes xs) : takeN xs = (0, 0, 3) ∨ takeN xs = (0, 0, 4) ∨ ∃ m k : Nat, takeN xs = ((m : Int), (k : Int), 0) ∧ m ≤ 18446744073709551615 ∧ 1 ≤ k ∧ k ≤ xs.length := by
  have hle := lead_le xs
  by_cases h : lead xs = xs.length
  · exact .inl (takeN_short h)
  · by_cases hb : badN xs
    · exact .inr (.inl (takeN_bad h hb))
    · refine .inr (.inr ⟨(numOf (xs.take (lead xs + 1))).toNat, lead xs + 1, ?_, ?_, by omega, by omega⟩)
      · rw [takeN_ok h hb]
        have := numOf_nonneg (xs.take (lead xs + 1))
        congr 1
        · omega
      · have := numOf_small hB (by omega) hb; omega
/-- Bytes with their length. -/
def takeB (xs : List Int) (most : Int) : List Int × Int × Int :=
  let t := takeN xs
  if t.2.2 ≠ 0 then ([], 0, t.2.2) else if most < 0 ∨ most < t.1 then ([], 0, 2) else if (xs.length : Int) - t.2.1 < t.1 then ([], 0, 3) else ((xs.drop t.2.1.toNat).take t.1.toNat, t.2.1 + t.1, 0)
theorem takeB_err {xs : List Int} {most e : Int} (h : takeN xs = (0, 0, e)) (he : e ≠ 0) : takeB xs most = ([], 0, e) := by unfold takeB; rw [h]; simp [he]
theorem takeB_long {xs : List Int} {most : Int} {m k : Nat} (h : takeN xs = ((m : Int), (k : Int), 0)) (hm : most < 0 ∨ most < m) : takeB xs most = ([], 0, 2) := by unfold takeB; rw [h]; simp [hm]
theorem takeB_short {xs : List Int} {most : Int} {m k : Nat} (h : takeN xs = ((m : Int), (k : Int), 0)) (hm : ¬ (most < 0 ∨ most < m)) (hs : (xs.length : Int) - k < m) : takeB xs most = ([], 0, 3) := by unfold takeB; rw [h]; simp only [ne_eq, not_true_eq_false, if_false, if_neg hm, if_pos hs]
theorem takeB_ok {xs : List Int} {most : Int} {m k : Nat} (h : takeN xs = ((m : Int), (k : Int), 0)) (hm : ¬ (most < 0 ∨ most < m)) (hs : ¬ (xs.length : Int) - k < m) : takeB xs most = ((xs.drop k).take m, (k : Int) + m, 0) := by unfold takeB; rw [h]; simp only [ne_eq, not_true_eq_false, if_false, if_neg hm, if_neg hs, Int.toNat_natCast]
theorem takeB_used {xs : List Int} {most : Int} (hB : Bytes xs) : 0 ≤ (takeB xs most).2.1 ∧ (takeB xs most).2.1 ≤ xs.length ∧ ((takeB xs most).2.2 = 0 → 1 ≤ (takeB xs most).2.1) ∧ ((takeB xs most).2.2 ≠ 0 → (takeB xs most).1 = []) := by
  rcases takeN_cases hB with h | h | ⟨m, k, h, hm, h1, h2⟩
  · rw [takeB_err h (by decide)]; simp
  · rw [takeB_err h (by decide)]; simp
  · by_cases hl : most < 0 ∨ most < m
    · rw [takeB_long h hl]; simp
    · by_cases hs : (xs.length : Int) - k < m
      · rw [takeB_short h hl hs]; simp
      · rw [takeB_ok h hl hs]; simp; omega
theorem takeN_range {xs : List Int} (hB : Bytes xs) : 0 ≤ (takeN xs).1 ∧ (takeN xs).1 ≤ 18446744073709551615 := by
  have hle := lead_le xs
  by_cases h : lead xs = xs.length
  · rw [takeN_short h]; simp
  · by_cases hb : badN xs
    · rw [takeN_bad h hb]; simp
    · rw [takeN_ok h hb]; exact ⟨numOf_nonneg _, numOf_small hB (by omega) hb⟩
end Go.Proofs.Ytcgkeolgflphiaa

/-! WireT -/
namespace Go.Proofs.Ytcgkeolgflphiaa
open Go.RowKit Go.Proofs.YtcgkeolgflphiaaW.PrintWords

theorem infoU8 : (Try.prog.info? 5).map (fun i => (i.zero, i.size, i.bytes)) = some (some (.int .u8 0), 1, 1) := by kernel_rfl

/-- A value that is bytes of the call's own, from block 'base' on. -/
def OwnB (w : World) (base : Nat) (v : Value) (xs : List Int) : Prop := w.ownsRow base 5 1 v xs.length (nums .u8 xs)
theorem OwnB.reads {w : World} {base : Nat} {v : Value} {xs : List Int} (h : OwnB w base v xs) : ∃ A m c, v = .slice A m c ∧ m = xs.length ∧ m ≤ c ∧ ReadsInt w .u8 A m xs := by
  obtain ⟨A, c, rfl, hr⟩ := own_reads h
  exact ⟨A, _, c, rfl, rfl, own_le h, hr⟩
theorem cell9 {w : World} {ad : Addr} {v : Value} (h : w.cell? (ad.add 9) = some v) : w.cell? ⟨ad.block, ad.off + 9, none⟩ = some v := by
  rw [← h]; unfold Addr.add; simp
set_option maxHeartbeats 1000000 in
theorem take_calls (A : Option Addr) (n c : Nat) (xs : List Int) (w : World) (hr : ReadsInt w .u8 A n xs) (hB : Bytes xs) (hl : n ≤ 140737488355000) :
    Calls Try.prog 75 #[.slice A n c] w fun e w' => e = .returned (.tuple #[.int .u64 (takeN xs).1, .int .i64 (takeN xs).2.1, .int .i64 (takeN xs).2.2]) ∧ w' = w := by
  have HR := Aside0.mk hr
  have HN := Aside0.mk hr.1
  have HL := Aside0.mk (lead_le xs)
  clear hr
  go_enter Try.func75, Try.ntmps75
  go_upto_block 0 with (fail)
  go_cut [5] (fun v wc => v = .int .i64 (lead xs) ∧ wc = w)
  case first =>
    go_wp2
    go_loop [5] (fun v => ∃ k : Nat, v = .int .i64 k ∧ k ≤ n ∧ Aside0 (∀ j, j < k → 128 ≤ xs.getD j 0)) (fun v => n - (intOf v).toNat)
    case atStart => exact ⟨0, rfl, Nat.zero_le _, ⟨fun j hj => absurd hj (Nat.not_lt_zero _)⟩⟩
    case round =>
      obtain ⟨k, rfl, hk, HA⟩ := hrel
      by_cases hlt : k < n
      · have hlx : k < xs.length := by have := HN.out; omega
        have HL2 := Aside0.mk (lead_at hlx HA.out)
        clear hlx
        obtain ⟨ad, rfl, hc⟩ := HR.out.at_ k (by omega) (by omega)
        rw [rd_nat] at hc
        rw [Int.toNat_natCast] at hc
        by_cases hb : 128 ≤ xs.getD k 0
        · have hb' : decide (128 ≤ xs.getD k 0) = true := decide_eq_true hb
          have HB := Aside0.mk hb
          clear hb
          obtain ⟨z, hz⟩ : ∃ z, z = xs.getD k 0 := ⟨_, rfl⟩
          rw [← hz] at hc hb'
          clear hz
          go_wp2
          go_round
          case rel => exact ⟨k + 1, by go_num, by omega, ⟨fun j hj => by
            rcases Nat.lt_or_ge j k with h | h
            · exact HA.out j h
            · obtain rfl : j = k := by omega
              exact HB.out⟩⟩
          case measure => simp [intOf]; omega
        · have hb' : decide (128 ≤ xs.getD k 0) = false := decide_eq_false hb
          have HB := Aside0.mk (HL2.out.2 (by omega))
          clear hb
          obtain ⟨z, hz⟩ : ∃ z, z = xs.getD k 0 := ⟨_, rfl⟩
          rw [← hz] at hc hb'
          clear hz
          go_wp2
          go_meet
          case rel => exact ⟨by rw [HB.out], rfl⟩
      · have HE := Aside0.mk (lead_all (xs := xs) (fun j hj => HA.out j (by have := HN.out; omega)))
        have hlt' : decide ((k : Int) < n) = false := decide_eq_false (by omega)
        go_wp2
        go_meet
        case rel => exact ⟨by rw [HE.out, HN.out]; congr 2; omega, rfl⟩
  case rest =>
    obtain ⟨rfl, rfl⟩ := hcut
    go_upto_block 2 with (fail)
    go_cut [] (fun w2 => Aside0 (lead xs < n ∧ ¬ badN xs) ∧ w2 = wc)
    case first =>
     by_cases h1 : lead xs = n
     · have HE := Aside0.mk (takeN_short (xs := xs) (by rw [h1, HN.out]))
       have h1' : ((lead xs : Int) == (n : Int)) = true := by simp [h1]
       clear h1
       generalize lead xs = k at *
       go_wp2
       go_ret3
       exact ⟨by rw [HE.out]; rfl, rfl⟩
     · have h2 : lead xs < n := by have := HL.out; have := HN.out; omega
       have hne : lead xs ≠ xs.length := by rw [HN.out]; exact h1
       obtain ⟨ad, rfl, hc⟩ := HR.out.at_ (lead xs) (by omega) (by omega)
       rw [Int.toNat_natCast] at hc
       have hz := hB.at_ (lead xs)
       by_cases hb : badN xs
       · have HE := Aside0.mk (takeN_bad hne hb)
         have hb' := hb
         unfold badN at hb'
         clear hb
         have hk9 : lead xs = 9 → rd xs 9 = rd xs (lead xs : Int) := fun h => by rw [h]; rfl
         clear hne
         generalize lead xs = k at *
         obtain ⟨z, hzz⟩ : ∃ z, z = rd xs (k : Int) := ⟨_, rfl⟩
         rw [← hzz] at hc hz hb' hk9
         clear hzz
         have h1' : ((k : Int) == (n : Int)) = false := by simp; omega
         clear h1
         rcases Nat.lt_or_ge 9 k with h3 | h3
         · clear hb' hk9
           go_wp2
           go_ret3
           exact ⟨by rw [HE.out]; rfl, rfl⟩
         · have h7 : decide (9 < (k : Int)) = false := by simp; omega
           by_cases h4 : k = 9 ∧ 1 < z
           · obtain ⟨h4, h5⟩ := h4
             have h9 : ((k : Int) == 9) = true := by simp; omega
             have h10 : decide (1 < z) = true := decide_eq_true h5
             clear hb' hk9 h5 h4
             go_wp2
             go_ret3
             exact ⟨by rw [HE.out]; rfl, rfl⟩
           · have h6 : 0 < k ∧ z = 0 := by
               rcases hb' with h | ⟨h, h'⟩ | h
               · omega
               · rw [hk9 h] at h'; exact absurd ⟨h, h'⟩ h4
               · exact h
             obtain ⟨h6, rfl⟩ := h6
             have h12 : 0 < k := by omega
             clear hb' hk9 h4
             by_cases h8 : k = 9
             · have h9 : ((k : Int) == 9) = true := by simp; omega
               clear h8
               go_wp2
               go_ret3
               exact ⟨by rw [HE.out]; rfl, rfl⟩
             · have h9 : ((k : Int) == 9) = false := by simp; omega
               clear h8
               go_wp2
               go_ret3
               exact ⟨by rw [HE.out]; rfl, rfl⟩
       · have HQ := Aside0.mk (And.intro h2 hb)
         have hb' := hb
         unfold badN at hb'
         have hk9 : lead xs = 9 → rd xs 9 = rd xs (lead xs : Int) := fun h => by rw [h]; rfl
         have h3 : lead xs ≤ 9 := Nat.le_of_not_lt fun h => hb' (.inl h)
         have h4 : lead xs = 9 → rd xs (lead xs : Int) ≤ 1 := fun h => by
           rw [← hk9 h]
           exact Int.not_lt.1 fun h' => hb' (.inr (.inl ⟨h, h'⟩))
         have h5 : 0 < lead xs → rd xs (lead xs : Int) ≠ 0 := fun h h' => hb' (.inr (.inr ⟨h, h'⟩))
         clear hb' hb hk9 hne
         generalize lead xs = k at *
         have h1' : ((k : Int) == (n : Int)) = false := by simp; omega
         clear h1
         obtain ⟨z, hzz⟩ : ∃ z, z = rd xs (k : Int) := ⟨_, rfl⟩
         rw [← hzz] at hc hz h4 h5
         clear hzz
         have h7 : decide (9 < (k : Int)) = false := by simp; omega
         by_cases h8 : k = 9
         · have h9 : ((k : Int) == 9) = true := by simp; omega
           have h12 : 0 < k := by omega
           have h10 : decide (1 < z) = false := by have := h4 h8; simp; omega
           have h11 : (z == 0) = false := by have := h5 (by omega); simp; omega
           clear h4 h5 h8
           go_wp2
           go_meet
           case rel => exact ⟨HQ, rfl⟩
         · have h9 : ((k : Int) == 9) = false := by simp; omega
           clear h4
           by_cases h10 : 0 < k
           · have h11 : (z == 0) = false := by have := h5 h10; simp; omega
             clear h5 h8
             go_wp2
             go_meet
             case rel => exact ⟨HQ, rfl⟩
           · have h11 : decide (0 < (k : Int)) = false := by simp; omega
             clear h5 h8
             go_wp2
             go_meet
             case rel => exact ⟨HQ, rfl⟩
    case rest =>
     obtain ⟨HQ, rfl⟩ := hcut
     have HE := Aside0.mk (takeN_ok (xs := xs) (by have := HQ.out.1; have := HN.out; omega) HQ.out.2)
     have HS := Aside0.mk (numOf_small hB (by have := HQ.out.1; have := HN.out; omega) HQ.out.2)
     have h2 := HQ.out.1
     obtain ⟨k, hk⟩ : ∃ k, k = lead xs := ⟨_, rfl⟩
     rw [← hk] at HE HS h2 ⊢
     clear hk HQ HL
     go_wp2
     go_loop [6, 7] (fun u v => ∃ j : Nat, j ≤ k + 1 ∧ v = .int .i64 ((j : Int) - 1) ∧ u = .int .u64 (numOf ((xs.take (k + 1)).drop j))) (fun _ v => (intOf v + 1).toNat)
     case atStart => exact ⟨k + 1, by omega, by go_num, by rw [List.drop_of_length_le (by simp; omega)]; rfl⟩
     case round =>
       obtain ⟨j, hj, rfl, rfl⟩ := hrel
       rcases j with _ | j
       · go_wp2
         go_ret3
         exact ⟨by rw [HE.out]; rfl, rfl⟩
       · obtain ⟨ad, rfl, hc⟩ := HR.out.at_ j (by omega) (by omega)
         rw [Int.toNat_natCast] at hc
         have hz := hB.at_ (j : Int)
         have HD := Aside0.mk (numOf_step xs k j (by omega) (by have := HN.out; omega) HS.out)
         have hd := HD.out.1
         have hd0 := numOf_nonneg ((xs.take (k + 1)).drop (j + 1))
         obtain ⟨z, hzz⟩ : ∃ z, z = rd xs (j : Int) := ⟨_, rfl⟩
         rw [← hzz] at hc hz HD
         clear hzz
         obtain ⟨d, hdd⟩ : ∃ d, d = numOf ((xs.take (k + 1)).drop (j + 1)) := ⟨_, rfl⟩
         rw [← hdd] at hd hd0 HD ⊢
         clear hdd
         have e0 : ((j + 1 : Nat) : Int) - 1 = (j : Int) := by omega
         rw [e0]
         clear e0
         go_wp2
         rw [u8_and127 hz.1 hz.2, show IntKind.u64.wrap (z % 128) = z % 128 by simp [IntKind.wrap, IntKind.bits, IntKind.signed]; try omega, u64_or_add hd0 hd (by omega) (by omega)]
         refine ⟨⟨j, by omega, rfl, by rw [HD.out.2]⟩, by simp [intOf]⟩
end Go.Proofs.Ytcgkeolgflphiaa

/-! WireU -/
namespace Go.Proofs.Ytcgkeolgflphiaa
open Go.RowKit Go.Proofs.YtcgkeolgflphiaaW.PrintWords

set_option maxHeartbeats 1000000 in
theorem put_calls (A : Option Addr) (n c : Nat) (xs : List Int) (x : Int) (w : World) (hr : ReadsInt w .u8 A n xs) (h0 : 0 ≤ x) (h1 : x ≤ 18446744073709551615) (hl : n ≤ 140737488355000) :
    Calls Try.prog 57 #[.slice A n c, .int .u64 x] w fun e w' => ∃ v, e = .returned v ∧ OwnB w' w.heap.size v (xs ++ putN x) ∧ Below w.heap.size w w' := by
  have HR := Aside0.mk hr
  have HL := Aside0.mk hr.1
  have HP := Aside0.mk (putN_len10 h1)
  clear hr
  go_enter Try.func57, Try.ntmps57
  go_wp2_with (first
    | (at_builtin; go_must (refine print_append_row w.heap.size rfl (.const (.slice none 0 0)) (.tmp 6) 31 5 .u8 1 rfl Try.underlying31 infoU8 (by decide) (.slice none 0 0) [] xs A n c rfl rfl (own_nil _ _ _ _) HR.out (Below.refl _ _) (Nat.le_refl _) (by simp; omega) ?_; intro v1 w1 ho hb _ _; have HO := Aside0.mk ho; have HB := Aside0.mk hb; clear ho hb)))
  go_loopw [1, 5] (fun u v wr => ∃ (y : Int) (ys : List Int), u = .int .u64 y ∧ 0 ≤ y ∧ y ≤ 18446744073709551615 ∧ Aside0 (ys ++ putN y = xs ++ putN x) ∧ Aside0 (OwnB wr w.heap.size v ys) ∧ Aside0 (Below w.heap.size w wr)) (fun u _ _ => (intOf u).toNat)
  case atStart => exact ⟨x, xs, rfl, h0, h1, ⟨rfl⟩, ⟨by unfold OwnB; simpa using HO.out⟩, HB⟩
  case round =>
    clear HO HB
    obtain ⟨y, ys, rfl, hy0, hy1, HE, HO, HB⟩ := hrel
    have HN := Aside0.mk (show ys.length ≤ n + 10 by
      have h := congrArg List.length HE.out
      have h2 := HP.out
      have h3 := HL.out
      simp only [List.length_append] at h
      omega)
    by_cases hlt : 128 ≤ y
    · go_wp2_with (first
        | (at_builtin; go_must (refine print_append_num w.heap.size rfl (.tmp 12) (.tmp 16) 31 5 .u8 1 rfl Try.underlying31 infoU8 (by decide) u5 ys (Go.bits .or .u8 (y % 256) 128) rfl rfl HO.out HB.out HB.out.size (by have := HN.out; omega) ?_; intro v2 w2 ho hb _ _; have HO2 := Aside0.mk ho; have HB2 := Aside0.mk hb; clear ho hb)))
      go_roundw
      case rel => exact ⟨y / 128, ys ++ [Go.bits .or .u8 (y % 256) 128], rfl, by omega, by omega, ⟨by rw [← HE.out, putN_ge hlt, u8_or128_add (by omega) (by omega), show y % 256 % 128 = y % 128 by omega]; simp⟩, HO2, HB2⟩
      case measure => simp [intOf]; omega
    · go_wp2_with (first
        | (at_builtin; go_must (refine print_append_num w.heap.size rfl (.tmp 18) (.tmp 21) 31 5 .u8 1 rfl Try.underlying31 infoU8 (by decide) u5 ys y rfl rfl HO.out HB.out HB.out.size (by have := HN.out; omega) ?_; intro v2 w2 ho hb _ _; have HO2 := Aside0.mk ho; have HB2 := Aside0.mk hb; clear ho hb)))
      go_ret
      refine ⟨_, rfl, ?_, HB2.out⟩
      rw [← HE.out, putN_lt (show y < 128 by omega)]; exact HO2.out

end Go.Proofs.Ytcgkeolgflphiaa

/-! WireA -/
namespace Go.Proofs.Ytcgkeolgflphiaa
open Go.RowKit Go.Proofs.YtcgkeolgflphiaaW.PrintWords Go.RegionInvYtcgkeolgflphiaa

theorem zig150 : zig (-150) = 299 := by decide
theorem put299 : putN 299 = [171, 2] := by
  rw [putN_ge (by decide), putN_lt (by decide)]; decide
theorem take299 : takeN [171, 2] = (299, 2, 0) := by
  have := take_put (n := 299) [] (by decide) (by decide)
  rw [put299] at this; simpa using this
theorem zag299 : zag 299 = -150 := by decide

theorem reads_nil (w : World) (k : IntKind) : ReadsInt w k none 0 [] := ⟨rfl, by omega, fun h => absurd h (by omega)⟩

set_option maxRecDepth 100000 in
/-- b[:k] -/
theorem run_cut_to {A : Option Addr} {n c : Nat} (w : World) (k : Int) (h0 : 0 ≤ k) (h1 : k ≤ c) : (Instr.slice 31 (.slice A n c) none (some (.int .i64 k)) none).run Try.prog w = .ok (.slice A k.toNat c) w := by
  have hel : Try.prog.elem 31 = 5 := by kernel_rfl
  rw [run_slice_h w 31 A n c (by rw [hel]; exact Try.underlying31) .i64 k h0 h1, hel]
  obtain ⟨i, hi, hz⟩ := Option.map_eq_some_iff.1 infoU8
  have hs : i.size = 1 := by injection hz with _ hz; injection hz
  cases A <;> simp [sizeOf, typeInfo, hi, hs, sliced, Result.andThen, Addr.add]
theorem own_empty (w : World) (base : Nat) (e : TypeId) (hB : base ≤ w.heap.size) : (w.alloc (.cells #[] e)).ownsRow base e 1 (.slice (some ⟨w.heap.size, 0, none⟩) 0 0) 0 [] := by
  have := World.ownsRow_lit (base := base) (e := e) (size := 1) w #[] 0 hB (by simp [maxLen]) (by simp)
  simpa using this
end Go.Proofs.Ytcgkeolgflphiaa

/-! WireR -/
namespace Go.Proofs.Ytcgkeolgflphiaa
open Go.RowKit Go.Proofs.YtcgkeolgflphiaaW.PrintWords Go.RegionInvYtcgkeolgflphiaa

set_option maxHeartbeats 1000000 in
theorem refTake_calls (A : Option Addr) (n c : Nat) (xs : List Int) (w : World) (hr : ReadsInt w .u8 A n xs) (hB : Bytes xs) (hl : n ≤ 140737488355000) :
    Calls Try.prog 76 #[.slice A n c] w fun e w' => e = .returned (.tuple #[.int .u64 (takeN xs).1, .int .i64 (takeN xs).2.1, .int .i64 (takeN xs).2.2]) ∧ w' = w := by
  have HR := Aside0.mk hr
  have HN := Aside0.mk hr.1
  have HL := Aside0.mk (lead_le xs)
  clear hr
  go_enter Try.func76, Try.ntmps76
  go_upto_block 0 with (fail)
  go_cut [5] (fun v wc => v = .int .i64 (lead xs) ∧ wc = w)
  case first =>
    go_wp2
    go_loop [5] (fun v => ∃ k : Nat, v = .int .i64 k ∧ k ≤ n ∧ Aside0 (∀ j, j < k → 128 ≤ xs.getD j 0)) (fun v => n - (intOf v).toNat)
    case atStart => exact ⟨0, rfl, Nat.zero_le _, ⟨fun j hj => absurd hj (Nat.not_lt_zero _)⟩⟩
    case round =>
      obtain ⟨k, rfl, hk, HA⟩ := hrel
      by_cases hlt : k < n
      · have hlx : k < xs.length := by have := HN.out; omega
        have HL2 := Aside0.mk (lead_at hlx HA.out)
        clear hlx
        obtain ⟨ad, rfl, hc⟩ := HR.out.at_ k (by omega) (by omega)
        rw [rd_nat] at hc
        rw [Int.toNat_natCast] at hc
        by_cases hb : 128 ≤ xs.getD k 0
        · have hb' : decide (128 ≤ xs.getD k 0) = true := decide_eq_true hb
          have HB := Aside0.mk hb
          clear hb
          obtain ⟨z, hz⟩ : ∃ z, z = xs.getD k 0 := ⟨_, rfl⟩
          rw [← hz] at hc hb'
          clear hz
          go_wp2
          go_round
          case rel => exact ⟨k + 1, by go_num, by omega, ⟨fun j hj => by
            rcases Nat.lt_or_ge j k with h | h
            · exact HA.out j h
            · obtain rfl : j = k := by omega
              exact HB.out⟩⟩
          case measure => simp [intOf]; omega
        · have hb' : decide (128 ≤ xs.getD k 0) = false := decide_eq_false hb
          have HB := Aside0.mk (HL2.out.2 (by omega))
          clear hb
          obtain ⟨z, hz⟩ : ∃ z, z = xs.getD k 0 := ⟨_, rfl⟩
          rw [← hz] at hc hb'
          clear hz
          go_wp2
          go_meet
          case rel => exact ⟨by rw [HB.out], rfl⟩
      · have HE := Aside0.mk (lead_all (xs := xs) (fun j hj => HA.out j (by have := HN.out; omega)))
        have hlt' : decide ((k : Int) < n) = false := decide_eq_false (by omega)
        go_wp2
        go_meet
        case rel => exact ⟨by rw [HE.out, HN.out]; congr 2; omega, rfl⟩
  case rest =>
    obtain ⟨rfl, rfl⟩ := hcut
    by_cases h1 : lead xs = n
    · have HE := Aside0.mk (takeN_short (xs := xs) (by rw [h1, HN.out]))
      have h1' : ((lead xs : Int) == (n : Int)) = true := by simp [h1]
      clear h1
      generalize lead xs = k at *
      go_wp2
      go_ret3
      exact ⟨by rw [HE.out]; rfl, rfl⟩
    · have h2 : lead xs < n := by have := HL.out; have := HN.out; omega
      have h1' : ((lead xs : Int) == (n : Int)) = false := by simp; omega
      have hne : lead xs ≠ xs.length := by rw [HN.out]; exact h1
      obtain ⟨ad, rfl, hc⟩ := HR.out.at_ (lead xs) (by omega) (by omega)
      rw [Int.toNat_natCast] at hc
      have hz := hB.at_ (lead xs)
      by_cases hb : badN xs
      · have HE := Aside0.mk (takeN_bad hne hb)
        have hb' := hb
        unfold badN at hb'
        clear hb
        have hk9 : lead xs = 9 → rd xs 9 = rd xs (lead xs : Int) := fun h => by rw [h]; rfl
        clear hne h1
        generalize lead xs = k at *
        obtain ⟨z, hzz⟩ : ∃ z, z = rd xs (k : Int) := ⟨_, rfl⟩
        rw [← hzz] at hc hz hb' hk9
        clear hzz
        have h0 : 0 < k := by omega
        by_cases hz0 : z = 0
        · have h11 : (z == 0) = true := by simp [hz0]
          clear hb' hk9 hz0
          go_wp2
          go_ret3
          exact ⟨by rw [HE.out]; rfl, rfl⟩
        · have h11 : (z == 0) = false := by simp [hz0]
          rcases Nat.lt_or_ge 9 k with h3 | h3
          · clear hb' hk9 hz0
            go_wp2
            go_ret3
            exact ⟨by rw [HE.out]; rfl, rfl⟩
          · have h7 : decide (9 < (k : Int)) = false := by simp; omega
            have h4 : k = 9 ∧ 1 < z := by
              rcases hb' with h | ⟨h, h'⟩ | h
              · omega
              · rw [hk9 h] at h'; exact ⟨h, h'⟩
              · exact absurd h.2 hz0
            obtain ⟨h4, h5⟩ := h4
            have h9 : ((k : Int) == 9) = true := by simp; omega
            have h10 : decide (1 < z) = true := decide_eq_true h5
            clear hb' hk9 h5 h4 hz0
            go_wp2
            go_ret3
            exact ⟨by rw [HE.out]; rfl, rfl⟩
      · have HQ := Aside0.mk (And.intro h2 hb)
        have hb' := hb
        unfold badN at hb'
        have hk9 : lead xs = 9 → rd xs 9 = rd xs (lead xs : Int) := fun h => by rw [h]; rfl
        have h3 : lead xs ≤ 9 := Nat.le_of_not_lt fun h => hb' (.inl h)
        have h4 : lead xs = 9 → rd xs (lead xs : Int) ≤ 1 := fun h => by
          rw [← hk9 h]
          exact Int.not_lt.1 fun h' => hb' (.inr (.inl ⟨h, h'⟩))
        have h5 : 0 < lead xs → rd xs (lead xs : Int) ≠ 0 := fun h h' => hb' (.inr (.inr ⟨h, h'⟩))
        have HE := Aside0.mk (takeN_ok hne hb)
        have HS := Aside0.mk (numOf_small hB (by have := HN.out; omega) hb)
        clear hb' hb hk9 hne h1 HQ
        generalize lead xs = k at *
        obtain ⟨z, hzz⟩ : ∃ z, z = rd xs (k : Int) := ⟨_, rfl⟩
        rw [← hzz] at hc hz h4 h5
        clear hzz
        have h7 : decide (9 < (k : Int)) = false := by simp; omega
        go_upto_region 6 with (fail)
        go_cut [48] (fun v w2 => v = .bool false ∧ w2 = wc)
        case first =>
          by_cases h8 : k = 9
          · have h9 : ((k : Int) == 9) = true := by simp; omega
            have h12 : 0 < k := by omega
            have h10 : decide (1 < z) = false := by have := h4 h8; simp; omega
            have h11 : (z == 0) = false := by have := h5 (by omega); simp; omega
            clear h4 h5 h8
            go_wp2
            go_meet
            case rel => exact ⟨rfl, rfl⟩
          · have h9 : ((k : Int) == 9) = false := by simp; omega
            clear h4
            by_cases h10 : 0 < k
            · have h11 : (z == 0) = false := by have := h5 h10; simp; omega
              clear h5 h8
              go_wp2
              go_meet
              case rel => exact ⟨rfl, rfl⟩
            · have h11 : decide (0 < (k : Int)) = false := by simp; omega
              clear h5 h8
              go_wp2
              go_meet
              case rel => exact ⟨rfl, rfl⟩
        case rest =>
          obtain ⟨rfl, rfl⟩ := hcut
          clear h4 h5 hc hz h7 h1' h3 HL
          go_wp2
          go_loop [6, 7] (fun u v => ∃ j : Nat, j ≤ k + 1 ∧ v = .int .i64 ((j : Int) - 1) ∧ u = .int .u64 (numOf ((xs.take (k + 1)).drop j))) (fun _ v => (intOf v + 1).toNat)
          case atStart => exact ⟨k + 1, by omega, by go_num, by rw [List.drop_of_length_le (by simp; omega)]; rfl⟩
          case round =>
            obtain ⟨j, hj, rfl, rfl⟩ := hrel
            rcases j with _ | j
            · go_wp2
              go_ret3
              exact ⟨by rw [HE.out]; rfl, rfl⟩
            · obtain ⟨ad', hA, hc⟩ := HR.out.at_ j (by omega) (by omega)
              obtain rfl := Option.some.inj hA
              rw [Int.toNat_natCast] at hc
              have hz := hB.at_ (j : Int)
              have HD := Aside0.mk (numOf_step xs k j (by omega) (by have := HN.out; omega) HS.out)
              have hd := HD.out.1
              have hd0 := numOf_nonneg ((xs.take (k + 1)).drop (j + 1))
              obtain ⟨z, hzz⟩ : ∃ z, z = rd xs (j : Int) := ⟨_, rfl⟩
              rw [← hzz] at hc hz HD
              clear hzz
              obtain ⟨d, hdd⟩ : ∃ d, d = numOf ((xs.take (k + 1)).drop (j + 1)) := ⟨_, rfl⟩
              rw [← hdd] at hd hd0 HD ⊢
              clear hdd
              have e0 : ((j + 1 : Nat) : Int) - 1 = (j : Int) := by omega
              rw [e0]
              clear e0
              go_wp2
              rw [u8_and127 hz.1 hz.2, show IntKind.u64.wrap (z % 128) = z % 128 by simp [IntKind.wrap, IntKind.bits, IntKind.signed]; try omega, u64_or_add hd0 hd (by omega) (by omega)]
              refine ⟨⟨j, by omega, rfl, by rw [HD.out.2]⟩, by simp [intOf]⟩

theorem ret3_int {k1 k2 k3 : IntKind} {a a' b b' c c' : Int} (h1 : a = a') (h2 : b = b') (h3 : c = c') : Ending.returned (.tuple #[.int k1 a, .int k2 b, .int k3 c]) = .returned (.tuple #[.int k1 a', .int k2 b', .int k3 c']) := by rw [h1, h2, h3]

set_option maxHeartbeats 1000000 in
theorem refPut_calls (base : Nat) (v : Value) (xs : List Int) (x : Int) (w : World) (ho : OwnB w base v xs) (hb : base ≤ w.heap.size) (h0 : 0 ≤ x) (h1 : x ≤ 18446744073709551615) (hl : xs.length ≤ 140737488355000) :
    Calls Try.prog 32 #[v, .int .u64 x] w fun e w' => ∃ v', e = .returned v' ∧ OwnB w' base v' (xs ++ putN x) ∧ Grew v v' w w' := by
  have HO := Aside0.mk ho
  have HP := Aside0.mk (putN_len10 h1)
  clear ho
  go_enter Try.func32, Try.ntmps32
  go_wp2
  go_loopw [0, 1] (fun v' u wr => ∃ (y : Int) (ys : List Int), u = .int .u64 y ∧ 0 ≤ y ∧ y ≤ 18446744073709551615 ∧ Aside0 (ys ++ putN y = xs ++ putN x) ∧ Aside0 (OwnB wr base v' ys) ∧ Aside0 (Grew v v' w wr)) (fun _ u _ => (intOf u).toNat)
  case atStart => exact ⟨x, xs, rfl, h0, h1, ⟨rfl⟩, HO, ⟨Grew.refl _ _⟩⟩
  case round =>
    clear HO
    obtain ⟨y, ys, rfl, hy0, hy1, HE, HO, HB⟩ := hrel
    have HN := Aside0.mk (show ys.length ≤ 140737488355100 by
      have h := congrArg List.length HE.out
      have h2 := HP.out
      simp only [List.length_append] at h
      omega)
    have hbs : base ≤ wr.heap.size := Nat.le_trans hb HB.out.1.size
    by_cases hlt : 128 ≤ y
    · go_wp2_with (first
        | (at_builtin; go_must (refine print_append_num base rfl (.tmp 7) (.tmp 12) 31 5 .u8 1 rfl Try.underlying31 infoU8 (by decide) u0 ys (Go.bits .or .u8 (Go.bits .and .u64 y 127 % 256) 128) rfl rfl HO.out (Below.refl _ _) hbs (by have := HN.out; omega) ?_; intro v2 w2 ho _ hg hat; have HO2 := Aside0.mk ho; have HB2 := Aside0.mk (HB.out.trans (Grew.of_append hg hat)); clear ho hg hat)))
      go_roundw
      case rel => exact ⟨y / 128, ys ++ [Go.bits .or .u8 (Go.bits .and .u64 y 127 % 256) 128], rfl, by omega, by omega, ⟨by rw [← HE.out, putN_ge hlt, u64_and127 hy0 hy1, u8_or128_add (by omega) (by omega), show y % 128 % 256 % 128 = y % 128 by omega]; simp⟩, HO2, HB2⟩
      case measure => simp [intOf]; omega
    · go_wp2_with (first
        | (at_builtin; go_must (refine print_append_num base rfl (.tmp 16) (.tmp 19) 31 5 .u8 1 rfl Try.underlying31 infoU8 (by decide) u0 ys y rfl rfl HO.out (Below.refl _ _) hbs (by have := HN.out; omega) ?_; intro v2 w2 ho _ hg hat; have HO2 := Aside0.mk ho; have HB2 := Aside0.mk (HB.out.trans (Grew.of_append hg hat)); clear ho hg hat)))
      go_ret
      refine ⟨_, rfl, ?_, HB2.out⟩
      rw [← HE.out, putN_lt (show y < 128 by omega)]; exact HO2.out

end Go.Proofs.Ytcgkeolgflphiaa

/-! WireB -/
namespace Go.Proofs.Ytcgkeolgflphiaa
open Go.RowKit Go.Proofs.YtcgkeolgflphiaaW.PrintWords Go.RegionInvYtcgkeolgflphiaa Go.Proofs.YtcgkeolgflphiaaW.PrintMore

set_option maxRecDepth 100000 in
/-- b[k:e] -/
theorem run_cut_mid {A : Option Addr} {n c : Nat} (k e : Nat) (hke : k ≤ e) (hen : e ≤ n) (hc : n ≤ c) :
    ∃ A', (∀ W, (Instr.slice 31 (.slice A n c) (some (.int .i64 (k : Int))) (some (.int .i64 (e : Int))) none).run Try.prog W = .ok (.slice A' (e - k) (c - k)) W) ∧
      ∀ w xs, ReadsInt w .u8 A n xs → ReadsInt w .u8 A' (e - k) ((xs.drop k).take (e - k)) := by
  refine ⟨if c = k then A else A.map (·.add k), fun W => ?_, fun w xs hr => (hr.drop_ k (by omega) hc).take_ _ (by omega)⟩
  have hel : Try.prog.elem 31 = 5 := by kernel_rfl
  obtain ⟨i, hi, hz⟩ := Option.map_eq_some_iff.1 infoU8
  have hs : i.size = 1 := by injection hz with _ hz; injection hz
  rw [run_slice_lh W 31 A n c (by rw [hel]; exact Try.underlying31) .i64 .i64 k e (by omega) (by omega) (by omega), hel]
  simp [sizeOf, typeInfo, hi, hs, sliced, Result.andThen]
theorem reads_old {w w' : World} {k : IntKind} {A : Option Addr} {n base : Nat} {xs : List Int} (h : ReadsInt w k A n xs) (ho : ∀ i, i < n → ∃ ad, A = some ad ∧ ad.block < base) (hb : Below base w w') : ReadsInt w' k A n xs := by
  refine ⟨h.1, h.2.1, fun hn => ?_⟩
  obtain ⟨ad, e, hc⟩ := h.2.2 hn
  obtain ⟨ad', e', hlt⟩ := ho 0 hn
  rw [e] at e'
  obtain rfl := Option.some.inj e'
  refine ⟨ad, e, fun j hj => ?_⟩
  rw [← hc j hj]
  refine hb.cell ?_
  unfold Addr.add; split <;> exact hlt
theorem reads_blocks {w : World} {k : IntKind} {A : Option Addr} {n : Nat} {xs : List Int} (h : ReadsInt w k A n xs) : ∀ i, i < n → ∃ ad, A = some ad ∧ ad.block < w.heap.size := by
  intro i hi
  obtain ⟨ad, e, hc⟩ := h.2.2 (by omega)
  refine ⟨ad, e, ?_⟩
  have := World.block_lt_of_cell? w _ (hc 0 (by omega))
  unfold Addr.add at this; split at this <;> exact this
theorem ret_bytes {v : Value} {a a' b b' : Int} (h1 : a = a') (h2 : b = b') : Ending.returned (.tuple #[v, .int .i64 a, .int .i64 b]) = .returned (.tuple #[v, .int .i64 a', .int .i64 b']) := by rw [h1, h2]

set_option maxHeartbeats 2000000 in
theorem takeBytes_calls (A : Option Addr) (n c : Nat) (xs : List Int) (most : Int) (w : World) (hr : ReadsInt w .u8 A n xs) (hc : n ≤ c) (hB : Bytes xs) (hl : n ≤ 140737488355000) (hm0 : -9223372036854775808 ≤ most) (hm1 : most ≤ 9223372036854775807) :
    Calls Try.prog 105 #[.slice A n c, .int .i64 most] w fun e w' => ∃ v, e = .returned (.tuple #[v, .int .i64 (takeB xs most).2.1, .int .i64 (takeB xs most).2.2]) ∧ OwnB w' w.heap.size v (takeB xs most).1 ∧ Below w.heap.size w w' := by
  have HR := Aside0.mk hr
  have hxn := hr.1
  have HN := Aside0.mk hxn
  go_enter Try.func105, Try.ntmps105
  rcases takeN_cases hB with hT | hT | ⟨m, k, hT, hm, hk1, hk2⟩
  · have HE := Aside0.mk (takeB_err (most := most) hT (by decide))
    have HT := Aside0.mk hT
    clear hT hr hxn
    go_wp2_with (go_at_call 75; go_must (refine (take_calls _ _ _ xs _ HR.out hB hl).mono ?_; rintro e w' ⟨rfl, hw⟩; obtain rfl : w = w' := hw.symm; rw [HT.out]))
    go_ret3
    exact ⟨.slice none 0 0, by rw [HE.out]; rfl, by rw [HE.out]; exact own_nil _ _ _ _, Below.refl _ _⟩
  · have HE := Aside0.mk (takeB_err (most := most) hT (by decide))
    have HT := Aside0.mk hT
    clear hT hr hxn
    go_wp2_with (go_at_call 75; go_must (refine (take_calls _ _ _ xs _ HR.out hB hl).mono ?_; rintro e w' ⟨rfl, hw⟩; obtain rfl : w = w' := hw.symm; rw [HT.out]))
    go_ret3
    exact ⟨.slice none 0 0, by rw [HE.out]; rfl, by rw [HE.out]; exact own_nil _ _ _ _, Below.refl _ _⟩
  · have HT := Aside0.mk hT
    by_cases hlong : most < 0 ∨ most < m
    · have HE := Aside0.mk (takeB_long hT hlong)
      clear hT hr hxn
      rcases Int.lt_or_le most 0 with h0 | h0
      · clear hlong
        go_wp2_with (go_at_call 75; go_must (refine (take_calls _ _ _ xs _ HR.out hB hl).mono ?_; rintro e w' ⟨rfl, hw⟩; obtain rfl : w = w' := hw.symm; rw [HT.out]))
        go_ret3
        exact ⟨.slice none 0 0, by rw [HE.out]; rfl, by rw [HE.out]; exact own_nil _ _ _ _, Below.refl _ _⟩
      · have h1 : most < m := by omega
        clear hlong
        go_wp2_with (go_at_call 75; go_must (refine (take_calls _ _ _ xs _ HR.out hB hl).mono ?_; rintro e w' ⟨rfl, hw⟩; obtain rfl : w = w' := hw.symm; rw [HT.out]))
        go_ret3
        exact ⟨.slice none 0 0, by rw [HE.out]; rfl, by rw [HE.out]; exact own_nil _ _ _ _, Below.refl _ _⟩
    · have h0 : 0 ≤ most := by omega
      have h1 : (m : Int) ≤ most := by omega
      by_cases hs : (xs.length : Int) - k < m
      · have HE := Aside0.mk (takeB_short hT hlong hs)
        have hs2 : (n : Int) - k < m := by omega
        have hk3 : (k : Int) ≤ n := by omega
        clear hT hr hlong hs hxn
        go_wp2_with (go_at_call 75; go_must (refine (take_calls _ _ _ xs _ HR.out hB hl).mono ?_; rintro e w' ⟨rfl, hw⟩; obtain rfl : w = w' := hw.symm; rw [HT.out]))
        go_ret3
        exact ⟨.slice none 0 0, by rw [HE.out]; rfl, by rw [HE.out]; exact own_nil _ _ _ _, Below.refl _ _⟩
      · have HE := Aside0.mk (takeB_ok hT hlong hs)
        have hs2 : (m : Int) ≤ (n : Int) - k := by omega
        have hk3 : (k : Int) ≤ n := by omega
        obtain ⟨A', hcut, hrd⟩ := run_cut_mid (A := A) (n := n) (c := c) k (k + m) (by omega) (by omega) hc
        have HRD := Aside0.mk (hrd w xs HR.out)
        rw [show k + m - k = m by omega] at hcut HRD
        rw [Int.natCast_add] at hcut
        have hmn : m ≤ n := by omega
        clear hT hr hlong hs hrd hxn
        go_wp2_with (first
          | (go_at_call 75; go_must (refine (take_calls _ _ _ xs _ HR.out hB hl).mono ?_; rintro e w' ⟨rfl, hw⟩; obtain rfl : w = w' := hw.symm; rw [HT.out]))
          | (at_builtin; go_must (refine print_append_row (w0 := w) w.heap.size rfl (.const (.slice none 0 0)) (.tmp 45) 31 5 .u8 1 rfl Try.underlying31 infoU8 (by decide) (.slice none 0 0) [] ((xs.drop k).take m) A' m (c - k) rfl rfl (own_nil _ _ _ _) HRD.out (Below.refl _ _) (Nat.le_refl _) (by simp; omega) ?_; intro v1 w1 ho hb _ _; have HO := Aside0.mk ho; have HB := Aside0.mk hb; clear ho hb)))
        go_ret3
        exact ⟨v1, by rw [HE.out]; rfl, by rw [HE.out]; exact HO.out, HB.out⟩

set_option maxHeartbeats 2000000 in
theorem refTakeBytes_calls (A : Option Addr) (n c : Nat) (xs : List Int) (most : Int) (w : World) (hr : ReadsInt w .u8 A n xs) (hc : n ≤ c) (hB : Bytes xs) (hl : n ≤ 140737488355000) (hm0 : -9223372036854775808 ≤ most) (hm1 : most ≤ 9223372036854775807) :
    Calls Try.prog 110 #[.slice A n c, .int .i64 most] w fun e w' => ∃ v, e = .returned (.tuple #[v, .int .i64 (takeB xs most).2.1, .int .i64 (takeB xs most).2.2]) ∧ OwnB w' w.heap.size v (takeB xs most).1 ∧ Below w.heap.size w w' := by
  have HR := Aside0.mk hr
  have hxn := hr.1
  have HN := Aside0.mk hxn
  go_enter Try.func110, Try.ntmps110
  rcases takeN_cases hB with hT | hT | ⟨m, k, hT, hm, hk1, hk2⟩
  · have HE := Aside0.mk (takeB_err (most := most) hT (by decide))
    have HT := Aside0.mk hT
    clear hT hr hxn
    go_wp2_with (go_at_call 76; go_must (refine (refTake_calls _ _ _ xs _ HR.out hB hl).mono ?_; rintro e w' ⟨rfl, hw⟩; obtain rfl : w = w' := hw.symm; rw [HT.out]))
    go_ret3
    exact ⟨.slice none 0 0, by rw [HE.out]; rfl, by rw [HE.out]; exact own_nil _ _ _ _, Below.refl _ _⟩
  · have HE := Aside0.mk (takeB_err (most := most) hT (by decide))
    have HT := Aside0.mk hT
    clear hT hr hxn
    go_wp2_with (go_at_call 76; go_must (refine (refTake_calls _ _ _ xs _ HR.out hB hl).mono ?_; rintro e w' ⟨rfl, hw⟩; obtain rfl : w = w' := hw.symm; rw [HT.out]))
    go_ret3
    exact ⟨.slice none 0 0, by rw [HE.out]; rfl, by rw [HE.out]; exact own_nil _ _ _ _, Below.refl _ _⟩
  · have HT := Aside0.mk hT
    by_cases hlong : most < 0 ∨ most < m
    · have HE := Aside0.mk (takeB_long hT hlong)
      clear hT hr hxn
      rcases Int.lt_or_le most 0 with h0 | h0
      · clear hlong
        go_wp2_with (go_at_call 76; go_must (refine (refTake_calls _ _ _ xs _ HR.out hB hl).mono ?_; rintro e w' ⟨rfl, hw⟩; obtain rfl : w = w' := hw.symm; rw [HT.out]))
        go_ret3
        exact ⟨.slice none 0 0, by rw [HE.out]; rfl, by rw [HE.out]; exact own_nil _ _ _ _, Below.refl _ _⟩
      · have h1 : most < m := by omega
        clear hlong
        go_wp2_with (go_at_call 76; go_must (refine (refTake_calls _ _ _ xs _ HR.out hB hl).mono ?_; rintro e w' ⟨rfl, hw⟩; obtain rfl : w = w' := hw.symm; rw [HT.out]))
        go_ret3
        exact ⟨.slice none 0 0, by rw [HE.out]; rfl, by rw [HE.out]; exact own_nil _ _ _ _, Below.refl _ _⟩
    · have h0 : 0 ≤ most := by omega
      have h1 : (m : Int) ≤ most := by omega
      by_cases hs : (xs.length : Int) - k < m
      · have HE := Aside0.mk (takeB_short hT hlong hs)
        have hs2 : (n : Int) - k < m := by omega
        have hk3 : (k : Int) ≤ n := by omega
        clear hT hr hlong hs hxn
        go_wp2_with (go_at_call 76; go_must (refine (refTake_calls _ _ _ xs _ HR.out hB hl).mono ?_; rintro e w' ⟨rfl, hw⟩; obtain rfl : w = w' := hw.symm; rw [HT.out]))
        go_ret3
        exact ⟨.slice none 0 0, by rw [HE.out]; rfl, by rw [HE.out]; exact own_nil _ _ _ _, Below.refl _ _⟩
      · have HE := Aside0.mk (takeB_ok hT hlong hs)
        have hs2 : (m : Int) ≤ (n : Int) - k := by omega
        have hk3 : (k : Int) ≤ n := by omega
        obtain ⟨A', hcut, hrd⟩ := run_cut_mid (A := A) (n := n) (c := c) k (k + m) (by omega) (by omega) hc
        have HRD := Aside0.mk (hrd w xs HR.out)
        rw [show k + m - k = m by omega] at hcut HRD
        rw [Int.natCast_add] at hcut
        have hmn : m ≤ n := by omega
        clear hT hr hlong hs hrd hxn
        go_wp2_with (first
          | (go_at_call 76; go_must (refine (refTake_calls _ _ _ xs _ HR.out hB hl).mono ?_; rintro e w' ⟨rfl, hw⟩; obtain rfl : w = w' := hw.symm; rw [HT.out]))
          | (at_builtin; go_must (refine print_append_row (w0 := w) w.heap.size rfl (.const (.slice none 0 0)) (.tmp 43) 31 5 .u8 1 rfl Try.underlying31 infoU8 (by decide) (.slice none 0 0) [] ((xs.drop k).take m) A' m (c - k) rfl rfl (own_nil _ _ _ _) HRD.out (Below.refl _ _) (Nat.le_refl _) (by simp; omega) ?_; intro v1 w1 ho hb _ _; have HO := Aside0.mk ho; have HB := Aside0.mk hb; clear ho hb)))
        go_ret3
        exact ⟨v1, by rw [HE.out]; rfl, by rw [HE.out]; exact HO.out, HB.out⟩

end Go.Proofs.Ytcgkeolgflphiaa

/-! WireC -/
namespace Go.Proofs.Ytcgkeolgflphiaa
open Go.RowKit Go.Proofs.YtcgkeolgflphiaaW.PrintWords Go.RegionInvYtcgkeolgflphiaa Go.Proofs.YtcgkeolgflphiaaW.PrintMore

def putB (ys : List Int) : List Int := putN ys.length ++ ys
theorem putB_len (ys : List Int) (h : ys.length ≤ 18446744073709551615) : (putB ys).length ≤ ys.length + 10 := by
  unfold putB
  have := putN_len10 (n := (ys.length : Int)) (by omega)
  simp only [List.length_append]; omega
theorem putB_bytes {ys : List Int} (hB : Bytes ys) (h : ys.length ≤ 18446744073709551615) : Bytes (putB ys) := (putN_bytes10 (by omega) (by omega)).append hB

set_option maxHeartbeats 2000000 in
theorem putBytes_calls (A A2 : Option Addr) (n c m c2 : Nat) (xs ys : List Int) (w : World) (hr : ReadsInt w .u8 A n xs) (hr2 : ReadsInt w .u8 A2 m ys) (hl : n + m ≤ 140737488351232) :
    Calls Try.prog 55 #[.slice A n c, .slice A2 m c2] w fun e w' => ∃ v, e = .returned v ∧ OwnB w' w.heap.size v (xs ++ putB ys) ∧ Below w.heap.size w w' := by
  have HR := Aside0.mk hr
  have HR2 := Aside0.mk hr2
  have hN := hr.1
  have hM := hr2.1
  have HN := Aside0.mk hN
  have HM := Aside0.mk hM
  have hp := putN_len10 (n := (m : Int)) (by omega)
  clear hr hr2 hN hM
  go_enter Try.func55, Try.ntmps55
  go_wp2_with (first
    | (go_at_call 57; go_must (refine (put_calls A n c xs (m : Int) _ HR.out (by omega) (by omega) (by omega)).mono ?_; rintro e w1 ⟨v, rfl, ho, hb⟩; have HO := Aside0.mk ho; have HB := Aside0.mk hb; clear ho hb))
    | (at_builtin; go_must (refine print_append_row (w0 := w) w.heap.size rfl (.tmp 9) (.tmp 10) 31 5 .u8 1 rfl Try.underlying31 infoU8 (by decide) v (xs ++ putN (m : Int)) ys A2 m c2 rfl rfl HO.out (HR2.out.below HB.out) HB.out HB.out.size (by have := HN.out; simp only [List.length_append]; omega) ?_; intro v2 w2 ho hb _ _; have HO2 := Aside0.mk ho; have HB2 := Aside0.mk hb; clear ho hb)))
  go_ret
  refine ⟨_, rfl, ?_, HB2.out⟩
  unfold putB
  rw [HM.out, ← List.append_assoc]
  exact HO2.out

set_option maxHeartbeats 2000000 in
theorem refPutBytes_calls (base : Nat) (v : Value) (A2 : Option Addr) (m c2 : Nat) (xs ys : List Int) (w : World) (ho : OwnB w base v xs) (hb : base ≤ w.heap.size) (hr2 : ReadsInt w .u8 A2 m ys) (hold : ∀ i, i < m → ∃ ad, A2 = some ad ∧ ad.block < base) (hl : xs.length + m ≤ 140737488351232) :
    Calls Try.prog 30 #[v, .slice A2 m c2] w fun e w' => ∃ v', e = .returned v' ∧ OwnB w' base v' (xs ++ putB ys) ∧ Grew v v' w w' := by
  have HO := Aside0.mk ho
  have HR2 := Aside0.mk hr2
  have hM := hr2.1
  have HM := Aside0.mk hM
  have HH := Aside0.mk hold
  have hp := putN_len10 (n := (m : Int)) (by omega)
  clear hr2 hM ho hold
  go_enter Try.func30, Try.ntmps30
  go_wp2_with (first
    | (go_at_call 32; go_must (refine (refPut_calls base v xs (m : Int) _ HO.out hb (by omega) (by omega) (by omega)).mono ?_; rintro e w1 ⟨v1, rfl, ho, hb⟩; have HO1 := Aside0.mk ho; have HB1 := Aside0.mk hb; clear ho hb))
    | (at_builtin; go_must (refine print_append_row (w0 := w1) base rfl (.tmp 9) (.tmp 10) 31 5 .u8 1 rfl Try.underlying31 infoU8 (by decide) v1 (xs ++ putN (m : Int)) ys A2 m c2 rfl rfl HO1.out (reads_old HR2.out HH.out (HB1.out.below (own_base HO.out) hb)) (Below.refl _ _) (Nat.le_trans hb HB1.out.1.size) (by simp only [List.length_append]; omega) ?_; intro v2 w2 ho _ hg hat; have HO2 := Aside0.mk ho; have HB2 := Aside0.mk (HB1.out.trans (Grew.of_append hg hat)); clear ho hg hat)))
  go_ret
  refine ⟨_, rfl, ?_, HB2.out⟩
  unfold putB
  rw [HM.out, ← List.append_assoc]
  exact HO2.out
end Go.Proofs.Ytcgkeolgflphiaa

/-! Dlv -/
namespace Go.Proofs.Ytcgkeolgflphiaa
open Go.RowKit Go.Proofs.YtcgkeolgflphiaaW.PrintWords Go.RegionInvYtcgkeolgflphiaa

mutual
def lvOk : Lv → Prop
  | .mk k n ks => (1 ≤ k ∧ k ≤ 4) ∧ (k ≠ 4 → 0 ≤ n ∧ n ≤ 1048576) ∧ lvsOk ks
def lvsOk : List Lv → Prop
  | [] => True
  | l :: r => lvOk l ∧ lvsOk r
end
mutual
/-- A level's bytes. -/
def lvB : Lv → List Int
  | .mk k n ks => [k] ++ (if k = 4 then [] else putN n) ++ lvsB ks
def lvsB : List Lv → List Int
  | [] => []
  | l :: r => lvB l ++ lvsB r
end
theorem lvsB_append : ∀ (xs ys : List Lv), lvsB (xs ++ ys) = lvsB xs ++ lvsB ys
  | [], ys => by simp [lvsB]
  | x :: r, ys => by rw [List.cons_append, lvsB, lvsB, lvsB_append r ys, List.append_assoc]
theorem lvsB_cons (x : Lv) (r : List Lv) : lvsB (x :: r) = lvB x ++ lvsB r := by rw [lvsB]
theorem right_ok {k n : Int} {ks : List Lv} (h : rightP (.mk k n ks) 1048576 0 = true) : (1 ≤ k ∧ k ≤ 4) ∧ (k ≠ 4 → 0 ≤ n ∧ n ≤ 1048576) := by
  by_cases h0 : (ks.length : Int) = arityP k
  · have ha : 0 ≤ arityP k := by omega
    by_cases h1 : k = 1
    · subst h1; rw [right_num h0] at h; have := of_decide_eq_true h; omega
    · by_cases h2 : k = 2
      · subst h2; rw [right_var h0] at h; have := of_decide_eq_true h; omega
      · by_cases h3 : k = 3
        · subst h3; rw [right_succ h0] at h; have := of_decide_eq_true h; omega
        · by_cases h4 : k = 4
          · exact ⟨by omega, fun h => absurd h4 h⟩
          · rw [arity_no h1 h2 h3 h4] at ha; omega
  · rw [right_bad h0] at h; cases h
theorem mayF_ok {v : Int} (hv : v ≤ 1048576) {k n : Int} {ks : List Lv} {d s : Int} (h : (mayF v (.mk k n ks) d s).1 = 0) : (mayF v (.mk k n ks) d s).2 = s + 1 ∧ (1 ≤ k ∧ k ≤ 4) ∧ (k ≠ 4 → 0 ≤ n ∧ n ≤ 1048576) := by
  by_cases h1 : 32 < d ∨ 100 < s + 1
  · rw [mayF_long h1] at h; cases h
  · by_cases h2 : k = 2 ∧ ks = []
    · have e : mayF v (.mk k n ks) d s = if n < 0 ∨ v ≤ n then (10, s + 1) else (0, s + 1) := mayF_var (v := v) (l := .mk k n ks) h1 h2
      rw [e] at h ⊢
      by_cases h3 : n < 0 ∨ v ≤ n
      · rw [if_pos h3] at h; cases h
      · rw [if_neg h3]; exact ⟨rfl, by omega, fun _ => by omega⟩
    · have e := mayF_rest (v := v) (l := .mk k n ks) h1 h2
      rw [e] at h ⊢
      by_cases h3 : rightP (.mk k n ks) 1048576 0 = false
      · rw [if_pos h3] at h; cases h
      · rw [if_neg h3]
        have := right_ok (by simpa using h3)
        exact ⟨rfl, this.1, this.2⟩
theorem lv_node {k n : Int} (h : k ≠ 4 → 0 ≤ n ∧ n ≤ 1048576) : ([k] ++ (if k = 4 then [] else putN n)).length ≤ 11 := by
  by_cases h4 : k = 4
  · simp [h4]
  · rw [if_neg h4]
    have := h h4
    have := putN_len10 (n := n) (by omega)
    simp only [List.length_append, List.length_cons, List.length_nil]
    omega
mutual
theorem walk_ok {v : Int} (hv : v ≤ 1048576) : (l : Lv) → (d s : Int) → (walkP (mayF v) l d s).1 = 0 → lvOk l ∧ ((lvB l).length : Int) ≤ 11 * ((walkP (mayF v) l d s).2 - s)
  | .mk k n ks, d, s, h => by
    by_cases h1 : (mayF v (.mk k n ks) d s).1 = 0
    · rw [walkP_go h1] at h ⊢
      have h2 := mayF_ok hv h1
      have h3 := walks_ok hv ks (d + 1) _ h
      have h4 := lv_node (k := k) (n := n) h2.2.2
      rw [lvOk, lvB, List.length_append]
      simp only [Lv.kids] at h3 ⊢
      refine ⟨⟨h2.2.1, h2.2.2, h3.1⟩, ?_⟩
      have h5 := h3.2
      rw [h2.1] at h5 ⊢
      omega
    · rw [walkP_stop h1] at h; exact absurd h h1
theorem walks_ok {v : Int} (hv : v ≤ 1048576) : (ls : List Lv) → (d s : Int) → (walkKs (mayF v) ls d s).1 = 0 → lvsOk ls ∧ ((lvsB ls).length : Int) ≤ 11 * ((walkKs (mayF v) ls d s).2 - s)
  | [], d, s, _ => by
    rw [lvsOk, lvsB, walkKs]
    exact ⟨trivial, by simp⟩
  | x :: r, d, s, h => by
    by_cases h2 : (walkP (mayF v) x d s).1 = 0
    · rw [walkKs_go h2] at h ⊢
      have h3 := walk_ok hv x d s h2
      have h4 := walks_ok hv r d _ h
      rw [lvsOk, lvsB, List.length_append]
      exact ⟨⟨h3.1, h4.1⟩, by have := h3.2; have := h4.2; omega⟩
    · rw [walkKs_stop h2] at h; exact absurd h h2
end
theorem mayB_ok {v : Int} (hv : v ≤ 1048576) {l : Lv} (h : mayB v l = 0) : lvOk l ∧ (lvB l).length ≤ 1100 := by
  have h1 := walk_ok hv l 1 0 h
  have h2 := walkP_small (mayF_small v) l 1 0 (by decide) h
  exact ⟨h1.1, by have := h1.2; omega⟩
theorem mayLs_ok {v : Int} (hv : v ≤ 1048576) : ∀ (ls : List Lv), mayLs v ls = 0 → lvsOk ls ∧ (lvsB ls).length ≤ 1100 * ls.length
  | [], _ => by rw [lvsOk, lvsB]; exact ⟨trivial, by simp⟩
  | x :: r, h => by
    by_cases h2 : mayB v x = 0
    · rw [mayLs_go h2] at h
      have h3 := mayB_ok hv h2
      have h4 := mayLs_ok hv r h
      rw [lvsOk, lvsB, List.length_append, List.length_cons]
      exact ⟨⟨h3.1, h4.1⟩, by have := h3.2; have := h4.2; omega⟩
    · rw [mayLs_stop h2] at h; exact absurd h h2
/-- What a node has of its own. -/
def ownOk (k n : Int) (nm : ByteArray) (lv : Lv) (ls : List Lv) (ks : List Tm) : Prop :=
  (1 ≤ k ∧ k ≤ 7) ∧ (k = 1 → 0 ≤ n ∧ n ≤ 1048576) ∧ (k = 2 → lvOk lv) ∧ (k = 7 → nm.size ≤ 32 ∧ lvsOk ls ∧ ls.length ≤ 6) ∧ ((k = 1 ∨ k = 2 ∨ k = 7) → ks = []) ∧ ks.length ≤ 3
def ownBy (k n : Int) (nm : ByteArray) (lv : Lv) (ls : List Lv) : List Int :=
  if k = 1 then putN n else if k = 2 then lvB lv else if k = 7 then putB (bytesOf nm) ++ (putN ls.length ++ lvsB ls) else []
mutual
def tmOk : Tm → Prop
  | .mk k n nm lv ls ks => ownOk k n nm lv ls ks ∧ tmsOk ks
def tmsOk : List Tm → Prop
  | [] => True
  | t :: r => tmOk t ∧ tmsOk r
end
mutual
/-- A term's bytes. -/
def tmB : Tm → List Int
  | .mk k n nm lv ls ks => [k] ++ ownBy k n nm lv ls ++ tmsB ks
def tmsB : List Tm → List Int
  | [] => []
  | t :: r => tmB t ++ tmsB r
end
theorem tmsB_cons (x : Tm) (r : List Tm) : tmsB (x :: r) = tmB x ++ tmsB r := by rw [tmsB]
theorem node_ok {v : Int} (hv : v ≤ 1048576) {k n : Int} {nm : ByteArray} {lv : Lv} {ls : List Lv} {ks : List Tm} (h : mnP v (.mk k n nm lv ls ks) = 0) :
    ownOk k n nm lv ls ks ∧ ([k] ++ ownBy k n nm lv ls).length ≤ 7000 := by
  have ha : (ks.length : Int) = arZ k := mn_arity h
  have hI := arZ_in k
  have hk : 1 ≤ k ∧ k ≤ 7 := by
    unfold arZ at ha
    split at ha
    · omega
    · split at ha
      · omega
      · split at ha <;> omega
  have h0 : (k = 1 ∨ k = 2 ∨ k = 7) → ks = [] := fun hh => List.eq_nil_of_length_eq_zero (by unfold arZ at ha; rw [if_pos hh] at ha; omega)
  have h3 : ks.length ≤ 3 := by omega
  unfold ownOk ownBy
  by_cases k1 : k = 1
  · subst k1
    have hn : 0 ≤ n ∧ n ≤ 1048576 := by
      by_cases hb : n < 0 ∨ 1048576 < n
      · have := mn_num (v := v) (t := .mk 1 n nm lv ls ks) ha ⟨rfl, hb⟩
        rw [this] at h; cases h
      · omega
    have := putN_len10 (n := n) (by omega)
    refine ⟨⟨hk, fun _ => hn, fun e => by omega, fun e => by omega, h0, h3⟩, ?_⟩
    rw [if_pos rfl]
    simp only [List.length_append, List.length_cons, List.length_nil]
    omega
  · by_cases k2 : k = 2
    · subst k2
      have h1 := mn_sort (v := v) (t := .mk 2 n nm lv ls ks) ha rfl
      rw [h] at h1
      have h2 := mayB_ok hv (l := lv) h1.symm
      refine ⟨⟨hk, fun e => by omega, fun _ => h2.1, fun e => by omega, h0, h3⟩, ?_⟩
      rw [if_neg k1, if_pos rfl]
      have := h2.2
      simp only [List.length_append, List.length_cons, List.length_nil]
      omega
    · by_cases k7 : k = 7
      · subst k7
        have h1 : mnP v (.mk 7 n nm lv ls ks) = if nameB nm = false then 8 else if 6 < ls.length then 2 else mayLs v ls := mn_const (v := v) (t := .mk 7 n nm lv ls ks) ha rfl
        rw [h] at h1
        by_cases hn : nameB nm = false
        · rw [if_pos hn] at h1; cases h1
        · rw [if_neg hn] at h1
          have hnm : nm.size ≤ 32 := (of_decide_eq_true (by simpa [nameB] using hn) : NameP nm).1.2
          by_cases h6 : 6 < ls.length
          · rw [if_pos h6] at h1; cases h1
          · rw [if_neg h6] at h1
            have h2 := mayLs_ok hv ls h1.symm
            refine ⟨⟨hk, fun e => by omega, fun e => by omega, fun _ => ⟨hnm, h2.1, by omega⟩, h0, h3⟩, ?_⟩
            rw [if_neg k1, if_neg k2, if_pos rfl]
            have hb := putB_len (bytesOf nm) (by rw [bytesOf_length]; omega)
            rw [bytesOf_length] at hb
            have hp := putN_len10 (n := (ls.length : Int)) (by omega)
            have := h2.2
            simp only [List.length_append, List.length_cons, List.length_nil]
            omega
      · refine ⟨⟨hk, fun e => absurd e k1, fun e => absurd e k2, fun e => absurd e k7, h0, h3⟩, ?_⟩
        rw [if_neg k1, if_neg k2, if_neg k7]
        simp
theorem fold_ok {v : Int} (hv : v ≤ 1048576) (N : Nat) : ∀ (t : Tm), SizeOf.sizeOf t < N → ∀ (d b : Int) (s : Int × Int), (foldP (mtF v) t d b s).1 = true → tmOk t ∧ ((tmB t).length : Int) ≤ 7000 * ((foldP (mtF v) t d b s).2.1 - s.1) := by
  induction N with
  | zero => intro t h; omega
  | succ N ih =>
    intro t hN d b s h
    by_cases h1 : (mtF v t d b s).1 = true
    · have hl : ¬ (64 < d ∨ 400 < s.1 + 1) := fun hl => by rw [mtF_long hl] at h1; cases h1
      have hm : mnP v t = 0 := by rw [mtF_node hl] at h1; exact of_decide_eq_true h1
      have hs : (mtF v t d b s).2 = (s.1 + 1, 0) := by rw [mtF_node hl, hm]
      rw [foldP_go h1, hs] at h ⊢
      have hnk := mn_nK hm
      have key : ∀ (j k : Nat) (q : Int × Int), k + j = nK t → (runL (fun (i : Fin (nK t)) s => foldP (mtF v) (kidF t i) (d + 1) (b + moreZ t i) s) ((List.finRange (nK t)).drop k) q).1 = true →
          tmsOk (t.kids.drop k) ∧ ((tmsB (t.kids.drop k)).length : Int) ≤ 7000 * ((runL (fun (i : Fin (nK t)) s => foldP (mtF v) (kidF t i) (d + 1) (b + moreZ t i) s) ((List.finRange (nK t)).drop k) q).2.1 - q.1) := by
        intro j
        induction j with
        | zero =>
          intro k q hk _
          have e1 : (List.finRange (nK t)).drop k = [] := List.drop_of_length_le (by simp; omega)
          have e2 : t.kids.drop k = [] := List.drop_of_length_le (by omega)
          rw [e1, e2, tmsOk, tmsB, runL]
          exact ⟨trivial, by simp⟩
        | succ j ihj =>
          intro k q hk hr
          have hkn : k < nK t := by omega
          have hdf : (List.finRange (nK t)).drop k = ⟨k, hkn⟩ :: (List.finRange (nK t)).drop (k + 1) := by
            rw [List.drop_eq_getElem_cons (by simpa using hkn)]
            simp
          have hdk : t.kids.drop k = kidF t ⟨k, hkn⟩ :: t.kids.drop (k + 1) := List.drop_eq_getElem_cons (by omega)
          rw [hdf, runL] at hr ⊢
          rw [hdk, tmsOk, tmsB, List.length_append]
          by_cases hx : (foldP (mtF v) (kidF t ⟨k, hkn⟩) (d + 1) (b + moreZ t k) q).1 = true
          · rw [if_pos hx] at hr ⊢
            have h3 := ih (kidF t ⟨k, hkn⟩) (by have := kidF_lt t ⟨k, hkn⟩; omega) (d + 1) (b + moreZ t k) q hx
            have h4 := ihj (k + 1) _ (by omega) hr
            refine ⟨⟨h3.1, h4.1⟩, ?_⟩
            have h6 := h3.2
            have h7 := h4.2
            push_cast
            generalize (runL (fun (i : Fin (nK t)) s => foldP (mtF v) (kidF t i) (d + 1) (b + moreZ t i) s) ((List.finRange (nK t)).drop (k + 1)) (foldP (mtF v) (kidF t ⟨k, hkn⟩) (d + 1) (b + moreZ t k) q).2).2.1 = z1 at h7 ⊢
            generalize (foldP (mtF v) (kidF t ⟨k, hkn⟩) (d + 1) (b + moreZ t k) q).2.1 = z2 at h6 h7 ⊢
            omega
          · rw [if_neg hx] at hr; cases hr
      have h2 := key (nK t) 0 (s.1 + 1, 0) (by omega) h
      obtain ⟨k, n, nm, lv, ls, ks⟩ := t
      have h5 := node_ok hv hm
      rw [tmOk, tmB, List.length_append]
      simp only [List.drop_zero, Tm.kids] at h2
      refine ⟨⟨h5.1, h2.1⟩, ?_⟩
      have := h2.2
      have := h5.2
      omega
    · have h2 : (mtF v t d b s).1 = false := by simpa using h1
      rw [foldP_stop h2, h2] at h; cases h
end Go.Proofs.Ytcgkeolgflphiaa

/-! PutLv -/
namespace Go.Proofs.Ytcgkeolgflphiaa
open Go.RowKit Go.Proofs.YtcgkeolgflphiaaW.PrintWords Go.RegionInvYtcgkeolgflphiaa Go.Proofs.YtcgkeolgflphiaaW.PrintMore

/-- Bytes behind those of v, in v's own row or a new one. -/
def PutPost (base : Nat) (v : Value) (xs ys : List Int) (w : World) (e : Ending) (w' : World) : Prop := ∃ v', e = .returned v' ∧ OwnB w' base v' (xs ++ ys) ∧ Grew v v' w w'
theorem own_mono {w : World} {b base : Nat} {v : Value} {xs : List Int} (h : OwnB w b v xs) (hb : base ≤ b) : OwnB w base v xs :=
  ⟨h.1, h.2.imp id fun ⟨g, cap, cur, hv, hg, r⟩ => ⟨g, cap, cur, hv, Nat.le_trans hb hg, r⟩⟩
theorem fresh_grew {base : Nat} {v v' : Value} {zs : List Int} {w w' : World} (ho : OwnB w' w.heap.size v' zs) (hb : Below w.heap.size w w') (hB : base ≤ w.heap.size) : OwnB w' base v' zs ∧ Grew v v' w w' :=
  ⟨own_mono ho hB, Chg.of_below hb, fun k hk => .inr (World.ownsRow.lt ho k hk).1⟩
theorem put_grew (base : Nat) (v : Value) (xs : List Int) (x : Int) (w : World) (ho : OwnB w base v xs) (hb : base ≤ w.heap.size) (h0 : 0 ≤ x) (h1 : x ≤ 18446744073709551615) (hl : xs.length ≤ 140737488355000) :
    Calls Try.prog 57 #[v, .int .u64 x] w (PutPost base v xs (putN x) w) := by
  obtain ⟨A, m, c, rfl, hm, hc, hr⟩ := ho.reads
  refine (put_calls A m c xs x w hr h0 h1 (by omega)).mono ?_
  rintro e w' ⟨v', rfl, ho', hb'⟩
  have := fresh_grew (base := base) (v := .slice A m c) ho' hb' hb
  exact ⟨v', rfl, this.1, this.2⟩
theorem putBytes_grew (base : Nat) (v : Value) (A2 : Option Addr) (m2 c2 : Nat) (xs ys : List Int) (w : World) (ho : OwnB w base v xs) (hb : base ≤ w.heap.size) (hr2 : ReadsInt w .u8 A2 m2 ys) (hl : xs.length + m2 ≤ 140737488351232) :
    Calls Try.prog 55 #[v, .slice A2 m2 c2] w (PutPost base v xs (putB ys) w) := by
  obtain ⟨A, m, c, rfl, hm, hc, hr⟩ := ho.reads
  refine (putBytes_calls A A2 m c m2 c2 xs ys w hr hr2 (by omega)).mono ?_
  rintro e w' ⟨v', rfl, ho', hb'⟩
  have := fresh_grew (base := base) (v := .slice A m c) ho' hb' hb
  exact ⟨v', rfl, this.1, this.2⟩
theorem refPut_grew (base : Nat) (v : Value) (xs : List Int) (x : Int) (w : World) (ho : OwnB w base v xs) (hb : base ≤ w.heap.size) (h0 : 0 ≤ x) (h1 : x ≤ 18446744073709551615) (hl : xs.length ≤ 140737488355000) :
    Calls Try.prog 32 #[v, .int .u64 x] w (PutPost base v xs (putN x) w) := refPut_calls base v xs x w ho hb h0 h1 hl
theorem grew_alloc {v v' : Value} {w w' : World} {o : Obj} (h : Grew v v' (w.alloc o) w') : Grew v v' w w' :=
  ⟨chg_trans (chg_alloc _ _ _) h.1, fun k hk => (h.2 k hk).imp id fun h => by simp at h; omega⟩
theorem grew_hold {v v' : Value} {w w' : World} {base g : Nat} {xs : List Int} {ob : Obj} (h : Grew v v' w w') (ho : OwnB w base v xs) (hg : w.heap[g]? = some ob) (hn : ∀ k, v.ownBlock = some k → k ≠ g) : w'.heap[g]? = some ob :=
  (h.1.block g (blk_lt hg) (fun e => hn g e rfl)).trans hg
theorem grew_still {v v' : Value} {w w' : World} {base : Nat} {xs : List Int} (h : Grew v v' w w') (ho : OwnB w base v xs) (hb : base ≤ w.heap.size) : Below base w w' := h.below (fun k hk => (World.ownsRow.lt ho k hk).1) hb
theorem own_size {w : World} {base : Nat} {v : Value} {xs : List Int} (h : OwnB w base v xs) {k : Nat} (hk : v.ownBlock = some k) : k < w.heap.size := (World.ownsRow.lt h k hk).2
theorem lvsB_nil : lvsB [] = [] := by rw [lvsB]
theorem lvB_mk (k n : Int) (ks : List Lv) : lvB (.mk k n ks) = [k] ++ (if k = 4 then [] else putN n) ++ lvsB ks := by rw [lvB]
theorem lvsOk_at : ∀ {ls : List Lv}, lvsOk ls → ∀ (i : Nat) (x : Lv), ls[i]? = some x → lvOk x
  | [], _, i, x, h => by simp at h
  | y :: r, h, i, x, hx => by
    rw [lvsOk] at h
    cases i with
    | zero => simp at hx; subst hx; exact h.1
    | succ j => exact lvsOk_at h.2 j x (by simpa using hx)
theorem lvB_pos (l : Lv) : 1 ≤ (lvB l).length := by obtain ⟨k, n, ks⟩ := l; rw [lvB_mk]; simp only [List.length_append, List.length_cons, List.length_nil]; omega
theorem lvsB_le : ∀ (ls : List Lv) (i : Nat) (x : Lv), ls[i]? = some x → (lvB x).length ≤ (lvsB ls).length
  | [], i, x, h => by simp at h
  | y :: r, i, x, hx => by
    rw [lvsB_cons, List.length_append]
    cases i with
    | zero => simp at hx; subst hx; omega
    | succ j => have := lvsB_le r j x (by simpa using hx); omega
set_option maxRecDepth 100000 in
set_option maxHeartbeats 8000000 in
theorem putLevel_calls (N : Nat) : ∀ (l : Lv), SizeOf.sizeOf l < N → lvOk l → ∀ (A : Option Addr) (c base : Nat) (v : Value) (xs : List Int) (w : World), LvIn w base A c l → OwnB w base v xs → base ≤ w.heap.size → xs.length + (lvB l).length ≤ 140737488350000 →
    Calls Try.prog 80 #[v, lvV A c l] w (PutPost base v xs (lvB l) w) := by
  induction N with
  | zero => intro l h; omega
  | succ N ih =>
    rintro ⟨lk, ln, ks⟩ hN hok A c base v xs w hin ho hb hsz
    have IH := Aside0.mk ih
    rw [lvOk] at hok
    obtain ⟨⟨hk1, hk4⟩, hn, hoks⟩ := hok
    have HOK := Aside0.mk hoks
    have hlen := hin.len
    simp only [Lv.kids] at hlen
    have hl9 : ks.length ≤ 9223372036854775807 := by omega
    obtain ⟨W, hW⟩ : ∃ W, W = w.alloc (.cells #[.int .i64 lk, .int .i64 ln, .slice A ks.length c] 24 (0, 0)) := ⟨_, rfl⟩
    have hbw : Below w.heap.size w W := by rw [hW]; exact below_alloc (Below.refl _ _) _
    have HOW := Aside0.mk (show OwnB W base v xs by rw [hW]; exact World.ownsRow.alloc ho _)
    have HX := Aside0.mk (show W.heap[w.heap.size]? = some (.cells #[.int .i64 lk, .int .i64 ln, .slice A ks.length c] 24 (0, 0)) by rw [hW]; exact blk_new _ _)
    have HIN := Aside0.mk (hin.stay (hbw.mono hb))
    have HNE := Aside0.mk (show ∀ k, v.ownBlock = some k → k ≠ w.heap.size from fun k hk => Nat.ne_of_lt (own_size ho hk))
    have HFIN := Aside0.mk (show ∀ (v' : Value) (w' : World) (zs : List Int), zs = xs ++ lvB (.mk lk ln ks) → OwnB w' base v' zs → Grew v v' W w' → PutPost base v xs (lvB (.mk lk ln ks)) w (.returned v') w' from fun v' w' zs hz h1 h2 => ⟨v', rfl, by rw [← hz]; exact h1, by rw [hW] at h2; exact grew_alloc h2⟩)
    have hbW : base ≤ W.heap.size := Nat.le_trans hb hbw.size
    have hz := lvB_mk lk ln ks
    have hnk : lk ≠ 4 → (putN ln).length + 1 + (lvsB ks).length = (lvB (.mk lk ln ks)).length := fun h => by rw [hz, if_neg h]; simp only [List.length_append, List.length_cons, List.length_nil]; try omega
    have hnk4 : lk = 4 → 1 + (lvsB ks).length = (lvB (.mk lk ln ks)).length := fun h => by rw [hz, if_pos h]; simp only [List.length_append, List.length_cons, List.length_nil, List.append_nil]; try omega
    have HZ := Aside0.mk hz
    have HNK := Aside0.mk hnk
    have HNK4 := Aside0.mk hnk4
    have HSZ := Aside0.mk hsz
    have hsz0 : xs.length + 1 ≤ 140737488350000 := by have := lvB_pos (.mk lk ln ks); omega
    clear ih hoks hin ho hbw hlen hz hnk hnk4 hsz
    obtain ⟨m, hm⟩ : ∃ m, m = ks.length := ⟨_, rfl⟩
    unfold lvV
    simp only [Lv.kind, Lv.num, Lv.kids]
    rw [← hm] at hl9 hW HX ⊢
    have HM := Aside0.mk hm
    clear hm
    go_enter Try.func80, Try.ntmps80
    go_upto_region 1 with (fail)
    rw [← hW]
    clear hW
    have c0 : W.cell? ⟨w.heap.size, 0, none⟩ = some (.int .i64 lk) := by rw [cell_of_row _ _ _ _ _ _ HX.out]; rfl
    by_cases k4 : lk = 4
    · have b4 : (lk != 4) = false := by simp [k4]
      have hsize := HNK4.out k4
      have HE := Aside0.mk (show lvB (.mk lk ln ks) = [lk] ++ lvsB ks by rw [HZ.out, if_pos k4]; simp)
      clear k4
      go_wp2_with (at_builtin; go_must (refine print_append_num (w0 := W) base rfl (.tmp 7) (.tmp 11) 31 5 .u8 1 rfl Try.underlying31 infoU8 (by decide) v xs lk rfl rfl HOW.out (Below.refl _ _) hbW (by omega) ?_; intro v1 w1 ho _ hg hat; have HG1 := Aside0.mk (Grew.of_append hg hat); have HO1 := Aside0.mk ho; have hx1 := grew_hold HG1.out HOW.out HX.out HNE.out; have c0 : w1.cell? ⟨w.heap.size, 0, none⟩ = some (.int .i64 lk) := (by rw [cell_of_row _ _ _ _ _ _ hx1]; rfl); have c2 : w1.cell? ⟨w.heap.size, 2, none⟩ = some (.slice A m c) := (by rw [cell_of_row _ _ _ _ _ _ hx1]; rfl); clear ho hg hat hx1))
      clear c0 c2
      go_loopw [0, 24] (fun u i wr => ∃ (k : Nat) (ys : List Int), i = .int .i64 k ∧ k ≤ m ∧ Aside0 (ys ++ lvsB (ks.drop k) = xs ++ lvB (.mk lk ln ks)) ∧ Aside0 (OwnB wr base u ys) ∧ Aside0 (Grew v u W wr)) (fun _ i _ => m - (intOf i).toNat)
      case atStart => exact ⟨0, _, rfl, Nat.zero_le _, ⟨by rw [List.drop_zero, HE.out]; simp only [List.append_assoc]⟩, HO1, HG1⟩
      case round =>
        clear HO1 HG1 HE
        obtain ⟨k, ys, rfl, hk, HE, HOR, HGR⟩ := hrel
        by_cases hlt : k < m
        · have hlt2 : k < ks.length := by rw [← HM.out]; exact hlt
          obtain ⟨x, hx⟩ : ∃ x, ks[k]? = some x := ⟨_, List.getElem?_eq_getElem hlt2⟩
          obtain ⟨A', c', hcs, hxin⟩ := (HIN.out.stay (grew_still HGR.out HOW.out hbW)).kid k x hx
          obtain ⟨ad, rfl, d1, d2, d3⟩ := hcs.facts
          have HXIN := Aside0.mk hxin
          have HXS := Aside0.mk (kid_small (k := lk) (n := ln) hx)
          have HXO := Aside0.mk (lvsOk_at HOK.out k x hx)
          have HDK := Aside0.mk (show lvsB (ks.drop k) = lvB x ++ lvsB (ks.drop (k + 1)) by rw [drop_kid hx, lvsB_cons])
          have hl1 := congrArg List.length HE.out
          rw [HDK.out] at hl1
          simp only [List.length_append] at hl1
          have hbr : base ≤ wr.heap.size := Nat.le_trans hbW HGR.out.1.size
          have HBB := Aside0.mk (show ys.length + (lvB x).length ≤ 140737488350000 by have := HSZ.out; omega)
          have HXV := Aside0.mk (show ∀ w, LvIn w base A' c' x → OwnB w base u0 ys → base ≤ w.heap.size → Calls Try.prog 80 #[u0, .agg #[.int .i64 x.kind, .int .i64 x.num, .slice A' x.kids.length c']] w (PutPost base u0 ys (lvB x) w) from fun w h1 h2 h3 => IH.out x (Nat.lt_of_lt_of_le HXS.out (Nat.le_of_lt_succ hN)) HXO.out A' c' base u0 ys w h1 h2 h3 HBB.out)
          clear hcs hxin hx hlt2 hl1
          go_wp2_with (go_at_call 80; go_must (refine (HXV.out _ (by exact LvIn.stay HXIN.out ((Below.refl _ _).alloc hbr _)) (World.ownsRow.alloc HOR.out _) (by simp; omega)).mono ?_; rintro e w3 ⟨v3, rfl, ho3, hg3⟩; have HO3 := Aside0.mk ho3; have HG3 := Aside0.mk (HGR.out.trans (grew_alloc hg3)); clear ho3 hg3))
          go_roundw
          case rel => exact ⟨k + 1, ys ++ lvB x, by go_num, by omega, ⟨by rw [← HE.out, HDK.out, List.append_assoc]⟩, HO3, HG3⟩
          case measure => (simp [intOf]; try omega)
        · obtain rfl : k = m := by omega
          have hlt' : decide ((k : Int) < k) = false := by simp
          have HZ2 := Aside0.mk (show ys = xs ++ lvB (.mk lk ln ks) by rw [← HE.out, List.drop_of_length_le (by rw [← HM.out]; exact Nat.le_refl _), lvsB_nil, List.append_nil])
          go_wp2
          go_ret
          exact HFIN.out _ _ _ HZ2.out HOR.out HGR.out
    · have b4 : (lk != 4) = true := by simp [k4]
      have hn4 := hn k4
      obtain ⟨n0, n1⟩ := hn4
      have hsize := HNK.out k4
      have HE := Aside0.mk (show lvB (.mk lk ln ks) = ([lk] ++ putN ln) ++ lvsB ks by rw [HZ.out, if_neg k4])
      clear k4 hn
      go_wp2_with (first
        | (at_builtin; go_must (refine print_append_num (w0 := W) base rfl (.tmp 7) (.tmp 11) 31 5 .u8 1 rfl Try.underlying31 infoU8 (by decide) v xs lk rfl rfl HOW.out (Below.refl _ _) hbW (by omega) ?_; intro v1 w1 ho _ hg hat; have HG1 := Aside0.mk (Grew.of_append hg hat); have HO1 := Aside0.mk ho; have hx1 := grew_hold HG1.out HOW.out HX.out HNE.out; have c0 : w1.cell? ⟨w.heap.size, 0, none⟩ = some (.int .i64 lk) := (by rw [cell_of_row _ _ _ _ _ _ hx1]; rfl); have c1 : w1.cell? ⟨w.heap.size, 1, none⟩ = some (.int .i64 ln) := (by rw [cell_of_row _ _ _ _ _ _ hx1]; rfl); clear ho hg hat hx1))
        | (go_at_call 57; go_must (refine (put_grew base v1 (xs ++ [lk]) ln w1 HO1.out (Nat.le_trans hbW HG1.out.1.size) n0 (by omega) (by simp; omega)).mono ?_; rintro e w2 ⟨v2, rfl, ho2, hg2⟩; have HG2 := Aside0.mk (HG1.out.trans hg2); have HO2 := Aside0.mk ho2; have hx2 := grew_hold HG2.out HOW.out HX.out HNE.out; have c2 : w2.cell? ⟨w.heap.size, 2, none⟩ = some (.slice A m c) := (by rw [cell_of_row _ _ _ _ _ _ hx2]; rfl); clear ho2 hg2 hx2)))
      clear c0 c2 c1 HO1 HG1
      go_loopw [0, 24] (fun u i wr => ∃ (k : Nat) (ys : List Int), i = .int .i64 k ∧ k ≤ m ∧ Aside0 (ys ++ lvsB (ks.drop k) = xs ++ lvB (.mk lk ln ks)) ∧ Aside0 (OwnB wr base u ys) ∧ Aside0 (Grew v u W wr)) (fun _ i _ => m - (intOf i).toNat)
      case atStart => exact ⟨0, _, rfl, Nat.zero_le _, ⟨by rw [List.drop_zero, HE.out]; simp only [List.append_assoc]⟩, HO2, HG2⟩
      case round =>
        clear HO2 HG2 HE
        obtain ⟨k, ys, rfl, hk, HE, HOR, HGR⟩ := hrel
        by_cases hlt : k < m
        · have hlt2 : k < ks.length := by rw [← HM.out]; exact hlt
          obtain ⟨x, hx⟩ : ∃ x, ks[k]? = some x := ⟨_, List.getElem?_eq_getElem hlt2⟩
          obtain ⟨A', c', hcs, hxin⟩ := (HIN.out.stay (grew_still HGR.out HOW.out hbW)).kid k x hx
          obtain ⟨ad, rfl, d1, d2, d3⟩ := hcs.facts
          have HXIN := Aside0.mk hxin
          have HXS := Aside0.mk (kid_small (k := lk) (n := ln) hx)
          have HXO := Aside0.mk (lvsOk_at HOK.out k x hx)
          have HDK := Aside0.mk (show lvsB (ks.drop k) = lvB x ++ lvsB (ks.drop (k + 1)) by rw [drop_kid hx, lvsB_cons])
          have hl1 := congrArg List.length HE.out
          rw [HDK.out] at hl1
          simp only [List.length_append] at hl1
          have hbr : base ≤ wr.heap.size := Nat.le_trans hbW HGR.out.1.size
          have HBB := Aside0.mk (show ys.length + (lvB x).length ≤ 140737488350000 by have := HSZ.out; omega)
          have HXV := Aside0.mk (show ∀ w, LvIn w base A' c' x → OwnB w base u0 ys → base ≤ w.heap.size → Calls Try.prog 80 #[u0, .agg #[.int .i64 x.kind, .int .i64 x.num, .slice A' x.kids.length c']] w (PutPost base u0 ys (lvB x) w) from fun w h1 h2 h3 => IH.out x (Nat.lt_of_lt_of_le HXS.out (Nat.le_of_lt_succ hN)) HXO.out A' c' base u0 ys w h1 h2 h3 HBB.out)
          clear hcs hxin hx hlt2 hl1
          go_wp2_with (go_at_call 80; go_must (refine (HXV.out _ (by exact LvIn.stay HXIN.out ((Below.refl _ _).alloc hbr _)) (World.ownsRow.alloc HOR.out _) (by simp; omega)).mono ?_; rintro e w3 ⟨v3, rfl, ho3, hg3⟩; have HO3 := Aside0.mk ho3; have HG3 := Aside0.mk (HGR.out.trans (grew_alloc hg3)); clear ho3 hg3))
          go_roundw
          case rel => exact ⟨k + 1, ys ++ lvB x, by go_num, by omega, ⟨by rw [← HE.out, HDK.out, List.append_assoc]⟩, HO3, HG3⟩
          case measure => (simp [intOf]; try omega)
        · obtain rfl : k = m := by omega
          have hlt' : decide ((k : Int) < k) = false := by simp
          have HZ2 := Aside0.mk (show ys = xs ++ lvB (.mk lk ln ks) by rw [← HE.out, List.drop_of_length_le (by rw [← HM.out]; exact Nat.le_refl _), lvsB_nil, List.append_nil])
          go_wp2
          go_ret
          exact HFIN.out _ _ _ HZ2.out HOR.out HGR.out
set_option maxRecDepth 100000 in
set_option maxHeartbeats 8000000 in
theorem refPutLevel_calls (N : Nat) : ∀ (l : Lv), SizeOf.sizeOf l < N → lvOk l → ∀ (A : Option Addr) (c base : Nat) (v : Value) (xs : List Int) (w : World), LvIn w base A c l → OwnB w base v xs → base ≤ w.heap.size → xs.length + (lvB l).length ≤ 140737488350000 →
    Calls Try.prog 60 #[v, lvV A c l] w (PutPost base v xs (lvB l) w) := by
  induction N with
  | zero => intro l h; omega
  | succ N ih =>
    rintro ⟨lk, ln, ks⟩ hN hok A c base v xs w hin ho hb hsz
    have IH := Aside0.mk ih
    rw [lvOk] at hok
    obtain ⟨⟨hk1, hk4⟩, hn, hoks⟩ := hok
    have HOK := Aside0.mk hoks
    have hlen := hin.len
    simp only [Lv.kids] at hlen
    have hl9 : ks.length ≤ 9223372036854775807 := by omega
    obtain ⟨W, hW⟩ : ∃ W, W = w.alloc (.cells #[.int .i64 lk, .int .i64 ln, .slice A ks.length c] 24 (0, 0)) := ⟨_, rfl⟩
    have hbw : Below w.heap.size w W := by rw [hW]; exact below_alloc (Below.refl _ _) _
    have HOW := Aside0.mk (show OwnB W base v xs by rw [hW]; exact World.ownsRow.alloc ho _)
    have HX := Aside0.mk (show W.heap[w.heap.size]? = some (.cells #[.int .i64 lk, .int .i64 ln, .slice A ks.length c] 24 (0, 0)) by rw [hW]; exact blk_new _ _)
    have HIN := Aside0.mk (hin.stay (hbw.mono hb))
    have HNE := Aside0.mk (show ∀ k, v.ownBlock = some k → k ≠ w.heap.size from fun k hk => Nat.ne_of_lt (own_size ho hk))
    have HFIN := Aside0.mk (show ∀ (v' : Value) (w' : World) (zs : List Int), zs = xs ++ lvB (.mk lk ln ks) → OwnB w' base v' zs → Grew v v' W w' → PutPost base v xs (lvB (.mk lk ln ks)) w (.returned v') w' from fun v' w' zs hz h1 h2 => ⟨v', rfl, by rw [← hz]; exact h1, by rw [hW] at h2; exact grew_alloc h2⟩)
    have hbW : base ≤ W.heap.size := Nat.le_trans hb hbw.size
    have hz := lvB_mk lk ln ks
    have hnk : lk ≠ 4 → (putN ln).length + 1 + (lvsB ks).length = (lvB (.mk lk ln ks)).length := fun h => by rw [hz, if_neg h]; simp only [List.length_append, List.length_cons, List.length_nil]; try omega
    have hnk4 : lk = 4 → 1 + (lvsB ks).length = (lvB (.mk lk ln ks)).length := fun h => by rw [hz, if_pos h]; simp only [List.length_append, List.length_cons, List.length_nil, List.append_nil]; try omega
    have HZ := Aside0.mk hz
    have HNK := Aside0.mk hnk
    have HNK4 := Aside0.mk hnk4
    have HSZ := Aside0.mk hsz
    have hsz0 : xs.length + 1 ≤ 140737488350000 := by have := lvB_pos (.mk lk ln ks); omega
    clear ih hoks hin ho hbw hlen hz hnk hnk4 hsz
    obtain ⟨m, hm⟩ : ∃ m, m = ks.length := ⟨_, rfl⟩
    unfold lvV
    simp only [Lv.kind, Lv.num, Lv.kids]
    rw [← hm] at hl9 hW HX ⊢
    have HM := Aside0.mk hm
    clear hm
    go_enter Try.func60, Try.ntmps60
    go_upto_region 1 with (fail)
    rw [← hW]
    clear hW
    have c0 : W.cell? ⟨w.heap.size, 0, none⟩ = some (.int .i64 lk) := by rw [cell_of_row _ _ _ _ _ _ HX.out]; rfl
    by_cases k4 : lk = 4
    · have b4 : (lk != 4) = false := by simp [k4]
      have hsize := HNK4.out k4
      have HE := Aside0.mk (show lvB (.mk lk ln ks) = [lk] ++ lvsB ks by rw [HZ.out, if_pos k4]; simp)
      clear k4
      go_wp2_with (at_builtin; go_must (refine print_append_num (w0 := W) base rfl (.tmp 7) (.tmp 11) 31 5 .u8 1 rfl Try.underlying31 infoU8 (by decide) v xs lk rfl rfl HOW.out (Below.refl _ _) hbW (by omega) ?_; intro v1 w1 ho _ hg hat; have HG1 := Aside0.mk (Grew.of_append hg hat); have HO1 := Aside0.mk ho; have hx1 := grew_hold HG1.out HOW.out HX.out HNE.out; have c0 : w1.cell? ⟨w.heap.size, 0, none⟩ = some (.int .i64 lk) := (by rw [cell_of_row _ _ _ _ _ _ hx1]; rfl); have c2 : w1.cell? ⟨w.heap.size, 2, none⟩ = some (.slice A m c) := (by rw [cell_of_row _ _ _ _ _ _ hx1]; rfl); clear ho hg hat hx1))
      clear c0 c2
      go_loopw [0, 24] (fun u i wr => ∃ (k : Nat) (ys : List Int), i = .int .i64 k ∧ k ≤ m ∧ Aside0 (ys ++ lvsB (ks.drop k) = xs ++ lvB (.mk lk ln ks)) ∧ Aside0 (OwnB wr base u ys) ∧ Aside0 (Grew v u W wr)) (fun _ i _ => m - (intOf i).toNat)
      case atStart => exact ⟨0, _, rfl, Nat.zero_le _, ⟨by rw [List.drop_zero, HE.out]; simp only [List.append_assoc]⟩, HO1, HG1⟩
      case round =>
        clear HO1 HG1 HE
        obtain ⟨k, ys, rfl, hk, HE, HOR, HGR⟩ := hrel
        by_cases hlt : k < m
        · have hlt2 : k < ks.length := by rw [← HM.out]; exact hlt
          obtain ⟨x, hx⟩ : ∃ x, ks[k]? = some x := ⟨_, List.getElem?_eq_getElem hlt2⟩
          obtain ⟨A', c', hcs, hxin⟩ := (HIN.out.stay (grew_still HGR.out HOW.out hbW)).kid k x hx
          obtain ⟨ad, rfl, d1, d2, d3⟩ := hcs.facts
          have HXIN := Aside0.mk hxin
          have HXS := Aside0.mk (kid_small (k := lk) (n := ln) hx)
          have HXO := Aside0.mk (lvsOk_at HOK.out k x hx)
          have HDK := Aside0.mk (show lvsB (ks.drop k) = lvB x ++ lvsB (ks.drop (k + 1)) by rw [drop_kid hx, lvsB_cons])
          have hl1 := congrArg List.length HE.out
          rw [HDK.out] at hl1
          simp only [List.length_append] at hl1
          have hbr : base ≤ wr.heap.size := Nat.le_trans hbW HGR.out.1.size
          have HBB := Aside0.mk (show ys.length + (lvB x).length ≤ 140737488350000 by have := HSZ.out; omega)
          have HXV := Aside0.mk (show ∀ w, LvIn w base A' c' x → OwnB w base u0 ys → base ≤ w.heap.size → Calls Try.prog 60 #[u0, .agg #[.int .i64 x.kind, .int .i64 x.num, .slice A' x.kids.length c']] w (PutPost base u0 ys (lvB x) w) from fun w h1 h2 h3 => IH.out x (Nat.lt_of_lt_of_le HXS.out (Nat.le_of_lt_succ hN)) HXO.out A' c' base u0 ys w h1 h2 h3 HBB.out)
          clear hcs hxin hx hlt2 hl1
          go_wp2_with (go_at_call 60; go_must (refine (HXV.out _ (by exact LvIn.stay HXIN.out ((Below.refl _ _).alloc hbr _)) (World.ownsRow.alloc HOR.out _) (by simp; omega)).mono ?_; rintro e w3 ⟨v3, rfl, ho3, hg3⟩; have HO3 := Aside0.mk ho3; have HG3 := Aside0.mk (HGR.out.trans (grew_alloc hg3)); clear ho3 hg3))
          go_roundw
          case rel => exact ⟨k + 1, ys ++ lvB x, by go_num, by omega, ⟨by rw [← HE.out, HDK.out, List.append_assoc]⟩, HO3, HG3⟩
          case measure => (simp [intOf]; try omega)
        · obtain rfl : k = m := by omega
          have hlt' : decide ((k : Int) < k) = false := by simp
          have HZ2 := Aside0.mk (show ys = xs ++ lvB (.mk lk ln ks) by rw [← HE.out, List.drop_of_length_le (by rw [← HM.out]; exact Nat.le_refl _), lvsB_nil, List.append_nil])
          go_wp2
          go_ret
          exact HFIN.out _ _ _ HZ2.out HOR.out HGR.out
    · have b4 : (lk != 4) = true := by simp [k4]
      have hn4 := hn k4
      obtain ⟨n0, n1⟩ := hn4
      have hsize := HNK.out k4
      have HE := Aside0.mk (show lvB (.mk lk ln ks) = ([lk] ++ putN ln) ++ lvsB ks by rw [HZ.out, if_neg k4])
      clear k4 hn
      go_wp2_with (first
        | (at_builtin; go_must (refine print_append_num (w0 := W) base rfl (.tmp 7) (.tmp 11) 31 5 .u8 1 rfl Try.underlying31 infoU8 (by decide) v xs lk rfl rfl HOW.out (Below.refl _ _) hbW (by omega) ?_; intro v1 w1 ho _ hg hat; have HG1 := Aside0.mk (Grew.of_append hg hat); have HO1 := Aside0.mk ho; have hx1 := grew_hold HG1.out HOW.out HX.out HNE.out; have c0 : w1.cell? ⟨w.heap.size, 0, none⟩ = some (.int .i64 lk) := (by rw [cell_of_row _ _ _ _ _ _ hx1]; rfl); have c1 : w1.cell? ⟨w.heap.size, 1, none⟩ = some (.int .i64 ln) := (by rw [cell_of_row _ _ _ _ _ _ hx1]; rfl); clear ho hg hat hx1))
        | (go_at_call 32; go_must (refine (refPut_grew base v1 (xs ++ [lk]) ln w1 HO1.out (Nat.le_trans hbW HG1.out.1.size) n0 (by omega) (by simp; omega)).mono ?_; rintro e w2 ⟨v2, rfl, ho2, hg2⟩; have HG2 := Aside0.mk (HG1.out.trans hg2); have HO2 := Aside0.mk ho2; have hx2 := grew_hold HG2.out HOW.out HX.out HNE.out; have c2 : w2.cell? ⟨w.heap.size, 2, none⟩ = some (.slice A m c) := (by rw [cell_of_row _ _ _ _ _ _ hx2]; rfl); clear ho2 hg2 hx2)))
      clear c0 c2 c1 HO1 HG1
      go_loopw [0, 24] (fun u i wr => ∃ (k : Nat) (ys : List Int), i = .int .i64 k ∧ k ≤ m ∧ Aside0 (ys ++ lvsB (ks.drop k) = xs ++ lvB (.mk lk ln ks)) ∧ Aside0 (OwnB wr base u ys) ∧ Aside0 (Grew v u W wr)) (fun _ i _ => m - (intOf i).toNat)
      case atStart => exact ⟨0, _, rfl, Nat.zero_le _, ⟨by rw [List.drop_zero, HE.out]; simp only [List.append_assoc]⟩, HO2, HG2⟩
      case round =>
        clear HO2 HG2 HE
        obtain ⟨k, ys, rfl, hk, HE, HOR, HGR⟩ := hrel
        by_cases hlt : k < m
        · have hlt2 : k < ks.length := by rw [← HM.out]; exact hlt
          obtain ⟨x, hx⟩ : ∃ x, ks[k]? = some x := ⟨_, List.getElem?_eq_getElem hlt2⟩
          obtain ⟨A', c', hcs, hxin⟩ := (HIN.out.stay (grew_still HGR.out HOW.out hbW)).kid k x hx
          obtain ⟨ad, rfl, d1, d2, d3⟩ := hcs.facts
          have HXIN := Aside0.mk hxin
          have HXS := Aside0.mk (kid_small (k := lk) (n := ln) hx)
          have HXO := Aside0.mk (lvsOk_at HOK.out k x hx)
          have HDK := Aside0.mk (show lvsB (ks.drop k) = lvB x ++ lvsB (ks.drop (k + 1)) by rw [drop_kid hx, lvsB_cons])
          have hl1 := congrArg List.length HE.out
          rw [HDK.out] at hl1
          simp only [List.length_append] at hl1
          have hbr : base ≤ wr.heap.size := Nat.le_trans hbW HGR.out.1.size
          have HBB := Aside0.mk (show ys.length + (lvB x).length ≤ 140737488350000 by have := HSZ.out; omega)
          have HXV := Aside0.mk (show ∀ w, LvIn w base A' c' x → OwnB w base u0 ys → base ≤ w.heap.size → Calls Try.prog 60 #[u0, .agg #[.int .i64 x.kind, .int .i64 x.num, .slice A' x.kids.length c']] w (PutPost base u0 ys (lvB x) w) from fun w h1 h2 h3 => IH.out x (Nat.lt_of_lt_of_le HXS.out (Nat.le_of_lt_succ hN)) HXO.out A' c' base u0 ys w h1 h2 h3 HBB.out)
          clear hcs hxin hx hlt2 hl1
          go_wp2_with (go_at_call 60; go_must (refine (HXV.out _ (by exact LvIn.stay HXIN.out ((Below.refl _ _).alloc hbr _)) (World.ownsRow.alloc HOR.out _) (by simp; omega)).mono ?_; rintro e w3 ⟨v3, rfl, ho3, hg3⟩; have HO3 := Aside0.mk ho3; have HG3 := Aside0.mk (HGR.out.trans (grew_alloc hg3)); clear ho3 hg3))
          go_roundw
          case rel => exact ⟨k + 1, ys ++ lvB x, by go_num, by omega, ⟨by rw [← HE.out, HDK.out, List.append_assoc]⟩, HO3, HG3⟩
          case measure => (simp [intOf]; try omega)
        · obtain rfl : k = m := by omega
          have hlt' : decide ((k : Int) < k) = false := by simp
          have HZ2 := Aside0.mk (show ys = xs ++ lvB (.mk lk ln ks) by rw [← HE.out, List.drop_of_length_le (by rw [← HM.out]; exact Nat.le_refl _), lvsB_nil, List.append_nil])
          go_wp2
          go_ret
          exact HFIN.out _ _ _ HZ2.out HOR.out HGR.out
end Go.Proofs.Ytcgkeolgflphiaa

/-! PutLs -/
namespace Go.Proofs.Ytcgkeolgflphiaa
open Go.RowKit Go.Proofs.YtcgkeolgflphiaaW.PrintWords Go.RegionInvYtcgkeolgflphiaa Go.Proofs.YtcgkeolgflphiaaW.PrintMore

theorem notNil_lv (W : World) : (binOp .eql 89 (.func (.func 80) #[] #[]) .nilFunc).run Try.prog W = .ok (.bool false) W := by kernel_rfl
set_option maxRecDepth 100000 in
set_option maxHeartbeats 8000000 in
theorem putLevels_calls (ls : List Lv) (hok : lvsOk ls) (A : Option Addr) (m c base : Nat) (v : Value) (xs : List Int) (w : World) (hm : m = ls.length) (hin : LvIn w base A c (.mk 0 0 ls)) (ho : OwnB w base v xs) (hb : base ≤ w.heap.size) (hsz : xs.length + (putN ls.length ++ lvsB ls).length ≤ 140737488350000) :
    Calls Try.prog 81 #[v, .slice A m c, .func (.func 80) #[] #[]] w (PutPost base v xs (putN ls.length ++ lvsB ls) w) := by
  have HM := Aside0.mk hm
  have HIN := Aside0.mk hin
  have HO := Aside0.mk ho
  have HOK := Aside0.mk hok
  have hlen := hin.len
  simp only [Lv.kids] at hlen
  have hm9 : m ≤ 9223372036854775807 := by omega
  rw [List.length_append] at hsz
  have HSZ := Aside0.mk hsz
  have hnil := notNil_lv
  rw [← hm]
  rw [← hm] at hsz
  have hx0 : xs.length ≤ 140737488350000 := by omega
  clear hin ho hok hlen hsz hm
  go_enter Try.func81, Try.ntmps81
  go_wp2_with (first
    | (go_at_call 57; go_must (refine (put_grew base v xs (m : Int) _ HO.out hb (by omega) (by omega) (by omega)).mono ?_; rintro e w1 ⟨v1, rfl, ho, hg⟩; have HO1 := Aside0.mk ho; have HG1 := Aside0.mk hg; clear ho hg)))
  go_loopw [7, 21] (fun u i wr => ∃ (k : Nat) (ys : List Int), i = .int .i64 k ∧ k ≤ m ∧ Aside0 (ys ++ lvsB (ls.drop k) = xs ++ (putN (m : Int) ++ lvsB ls)) ∧ Aside0 (OwnB wr base u ys) ∧ Aside0 (Grew v u w wr)) (fun _ i _ => m - (intOf i).toNat)
  case atStart => exact ⟨0, _, rfl, Nat.zero_le _, ⟨by rw [List.drop_zero]; simp only [List.append_assoc]⟩, HO1, HG1⟩
  case round =>
    clear HO1 HG1
    obtain ⟨k, ys, rfl, hk, HE, HOR, HGR⟩ := hrel
    by_cases hlt : k < m
    · have hlt2 : k < ls.length := by rw [← HM.out]; exact hlt
      obtain ⟨x, hx⟩ : ∃ x, ls[k]? = some x := ⟨_, List.getElem?_eq_getElem hlt2⟩
      obtain ⟨A', c', hcs, hxin⟩ := (HIN.out.stay (grew_still HGR.out HO.out hb)).kid k x hx
      obtain ⟨ad, rfl, d1, d2, d3⟩ := hcs.facts
      have HXIN := Aside0.mk hxin
      have HXO := Aside0.mk (lvsOk_at HOK.out k x hx)
      have HDK := Aside0.mk (show lvsB (ls.drop k) = lvB x ++ lvsB (ls.drop (k + 1)) by rw [drop_kid hx, lvsB_cons])
      have hl1 := congrArg List.length HE.out
      rw [HDK.out] at hl1
      simp only [List.length_append] at hl1
      have hbr : base ≤ wr.heap.size := Nat.le_trans hb HGR.out.1.size
      have HBB := Aside0.mk (show ys.length + (lvB x).length ≤ 140737488350000 by have := HSZ.out; rw [← HM.out] at this; omega)
      have HXV := Aside0.mk (show ∀ w, LvIn w base A' c' x → OwnB w base u7 ys → base ≤ w.heap.size → Calls Try.prog 80 #[u7, .agg #[.int .i64 x.kind, .int .i64 x.num, .slice A' x.kids.length c']] w (PutPost base u7 ys (lvB x) w) from fun w h1 h2 h3 => putLevel_calls _ x (Nat.lt_succ_self _) HXO.out A' c' base u7 ys w h1 h2 h3 HBB.out)
      clear hcs hxin hx hlt2 hl1
      go_wp2_with (go_at_call 80; go_must (refine (HXV.out _ (by exact LvIn.stay HXIN.out ((Below.refl _ _).alloc hbr _)) (World.ownsRow.alloc HOR.out _) (by simp; omega)).mono ?_; rintro e w3 ⟨v3, rfl, ho3, hg3⟩; have HO3 := Aside0.mk ho3; have HG3 := Aside0.mk (HGR.out.trans (grew_alloc hg3)); clear ho3 hg3))
      go_roundw
      case rel => exact ⟨k + 1, ys ++ lvB x, by go_num, by omega, ⟨by rw [← HE.out, HDK.out, List.append_assoc]⟩, HO3, HG3⟩
      case measure => (simp [intOf]; try omega)
    · obtain rfl : k = m := by omega
      have hlt' : decide ((k : Int) < k) = false := by simp
      have HZ2 := Aside0.mk (show ys = xs ++ (putN (k : Int) ++ lvsB ls) by rw [← HE.out, List.drop_of_length_le (by rw [← HM.out]; exact Nat.le_refl _), lvsB_nil, List.append_nil])
      go_wp2
      go_ret
      exact ⟨_, rfl, by rw [← HZ2.out]; exact HOR.out, HGR.out⟩
end Go.Proofs.Ytcgkeolgflphiaa

/-! RegE -/
namespace Go.RegionEYtcgkeolgflphiaa
open Go.RowKit Go.RegionInvYtcgkeolgflphiaa Go.Proofs.YtcgkeolgflphiaaW.PrintWords

section
variable {P : Program} {ops : Array Oper} {Q : Exit → Act → World → Prop} {E : Nat → Nat → Prop} {C : Nat → List Nat} {F : Nat → (Nat → Value) → Value → World → (Nat → Prop) → Prop} {a0 : Act} {w0 : World}

/-- What the slots hold. -/
def slots (a : Act) : Nat → Value := fun t => a.tmps.getD t undef
/-- A fact leans on the slots of those alone that its operation comes behind. -/
def Leans (ops : Array Oper) (o : Oper) (G : (Nat → Value) → Value → World → (Nat → Prop) → Prop) : Prop :=
  ∀ τ τ' : Nat → Value, (∀ k ok d, ops[k]? = some ok → ok.dst = some d → predB o k = true → τ' d = τ d) → G τ = G τ'
theorem leans_not {o : Oper} {G : Value → World → (Nat → Prop) → Prop} : Leans ops o (fun _ => G) := fun _ _ _ => rfl
/-- Blocks that nobody may change. -/
def Fix (w0 : World) (E : Nat → Nat → Prop) (k : Nat) : Prop := k < w0.heap.size ∧ ∀ i, ¬ E i k
def StableE (w0 : World) (E : Nat → Nat → Prop) (G : Value → World → (Nat → Prop) → Prop) : Prop :=
  ∀ v w w' O, G v w O → w.heap.size ≤ w'.heap.size → (∀ k, k < w.heap.size → (Fix w0 E k ∨ O k) → w'.heap[k]? = w.heap[k]?) → G v w' O

/-- What is known when operation j comes up. -/
structure KnownE (ops : Array Oper) (E : Nat → Nat → Prop) (C : Nat → List Nat) (F : Nat → (Nat → Value) → Value → World → (Nat → Prop) → Prop) (a0 : Act) (w0 : World) (j : Nat) (o : Oper) (a : Act) (w : World) (O : Nat → Nat → Prop) : Prop where
  fact : ∀ i oi d, ops[i]? = some oi → oi.dst = some d → predB o i = true → freeB C ops.size i j = true → F i (slots a) (a.tmps.getD d undef) w (O i)
  owns : ∀ i, predB o i = true → freeB C ops.size i j = true → ∀ k, O i k → k < w.heap.size ∧ ¬ Fix w0 E k
  apart : ∀ i i', predB o i = true → freeB C ops.size i j = true → predB o i' = true → freeB C ops.size i' j = true → i ≠ i' → ∀ k, O i k → ¬ O i' k
  init : ∀ t, initialB ops j t = true → a.tmps.getD t undef = a0.tmps.getD t undef
  size : a.tmps.size = a0.tmps.size
  world : Chg (fun k => ∃ i, E i k) w0 w
  est : ∀ i oi, ops[i]? = some oi → (i = j ∨ predB oi j = true) → ∀ k, E i k → w.heap[k]? = w0.heap[k]?
  away : ∀ i i' oi, ops[i]? = some oi → (i = j ∨ predB oi j = true) → predB o i' = true → freeB C ops.size i' j = true → ∀ k, E i k → ¬ O i' k

/-- What operation j owes. -/
def OwesE (P : Program) (ops : Array Oper) (Q : Exit → Act → World → Prop) (R : Nat → Prop) (G : Value → World → (Nat → Prop) → Prop) (o : Oper) (a : Act) (w : World) : Prop :=
  if Region.wanted o (yielded ops a.tmps) then o.wp P a w (fun a' w' => ∃ v O', a' = a.put o.dst v ∧ G v w' O' ∧ Chg R w w' ∧ (∀ k, O' k → R k ∨ (w.heap.size ≤ k ∧ k < w'.heap.size))) Q
  else G undef w (fun _ => False)
def Taken (Cj : List Nat) (O : Nat → Nat → Prop) (Ej : Nat → Prop) (k : Nat) : Prop := (∃ i ∈ Cj, O i k) ∨ Ej k

def ObsE (P : Program) (ops : Array Oper) (Q : Exit → Act → World → Prop) (E : Nat → Nat → Prop) (C : Nat → List Nat) (F : Nat → (Nat → Value) → Value → World → (Nat → Prop) → Prop) (a0 : Act) (w0 : World) : List Oper → Nat → Prop
  | [], _ => True
  | o :: r, j => (((∀ τ, StableE w0 E (F j τ)) ∧ Leans ops o (F j)) ∧ ∀ a w O, KnownE ops E C F a0 w0 j o a w O → OwesE P ops Q (Taken (C j) O (E j)) (F j (slots a)) o a w) ∧ ObsE P ops Q E C F a0 w0 r (j + 1)

theorem ObsE.at_ : ∀ (l : List Oper) (k : Nat), ObsE P ops Q E C F a0 w0 l k → ∀ j o, l[j]? = some o → ((∀ τ, StableE w0 E (F (k + j) τ)) ∧ Leans ops o (F (k + j))) ∧ ∀ a w O, KnownE ops E C F a0 w0 (k + j) o a w O → OwesE P ops Q (Taken (C (k + j)) O (E (k + j))) (F (k + j) (slots a)) o a w := by
  intro l
  induction l with
  | nil => intro k _ j o h; simp at h
  | cons x r ih =>
    intro k h j o hj
    cases j with
    | zero => obtain rfl : x = o := by simpa using hj
              exact h.1
    | succ j =>
      have := ih (k + 1) h.2 j o (by simpa using hj)
      rwa [show k + 1 + j = k + (j + 1) by omega] at this

/-- All that has come up. -/
structure InvE (ops : Array Oper) (E : Nat → Nat → Prop) (C : Nat → List Nat) (F : Nat → (Nat → Value) → Value → World → (Nat → Prop) → Prop) (a0 : Act) (w0 : World) (L : Array Bool) (O : Nat → Nat → Prop) (a : Act) (w : World) : Prop where
  defers : a.defers = a0.defers
  size : a.tmps.size = a0.tmps.size
  fact : ∀ i o d, ops[i]? = some o → o.dst = some d → live ops C L i → F i (slots a) (a.tmps.getD d undef) w (O i)
  nofact : ∀ i o, ops[i]? = some o → o.dst = none → live ops C L i → ∃ v, F i (slots a) v w (O i)
  owns : ∀ i, live ops C L i → ∀ k, O i k → k < w.heap.size ∧ ¬ Fix w0 E k ∧ ∀ i', L.getD i' false = false → ¬ E i' k
  apart : ∀ i j, live ops C L i → live ops C L j → i ≠ j → ∀ k, O i k → ¬ O j k
  same : ∀ t, (∀ i o, ops[i]? = some o → L.getD i false = true → o.dst ≠ some t) → a.tmps.getD t undef = a0.tmps.getD t undef
  closed : ∀ i o, ops[i]? = some o → L.getD i false = true → ∀ e ∈ o.after, Region.binds .any e = true → L.getD e.on false = true
  world : Chg (fun k => ∃ i, E i k) w0 w
  est : ∀ i, L.getD i false = false → ∀ k, E i k → w.heap[k]? = w0.heap[k]?
  len : L.size = ops.size

theorem inv_stepE (hE : ∀ i j k, E i k → E j k → i = j) (hEr : ∀ i k, E i k → k < w0.heap.size) (hok : okB ops a0.tmps.size = true) (hcons : consB ops C = true) (hobs : ObsE P ops Q E C F a0 w0 ops.toList 0)
    {L : Array Bool} {O : Nat → Nat → Prop} {a : Act} {w : World} {j : Nat} {o : Oper} (hI : InvE ops E C F a0 w0 L O a w) (ho : ops[j]? = some o) (hjf : L.getD j false = false) (hpre : ∀ e ∈ o.after, Region.binds .any e = true → L.getD e.on false = true)
    {K : Act → World → Prop} (hK : ∀ (O' : Nat → Nat → Prop) (a' : Act) (w' : World), InvE ops E C F a0 w0 (L.setIfInBounds j true) O' a' w' → K a' w') :
    if Region.wanted o (yielded ops a.tmps) then o.wp P a w K Q else K (a.put o.dst undef) w := by
  have hjn : j < ops.size := (Array.getElem?_eq_some_iff.1 ho).1
  have hjL : j < L.size := by rw [hI.len]; exact hjn
  have hset : ∀ i, (L.setIfInBounds j true).getD i false = true ↔ i = j ∨ L.getD i false = true := by
    intro i
    by_cases e : i = j
    · subst e; simp [Array.getD, hjL]
    · have : (L.setIfInBounds j true).getD i false = L.getD i false := by
        simp only [Array.getD_eq_getD_getElem?, Array.getElem?_setIfInBounds_ne (fun h => e h.symm)]
      rw [this]; simp [e]
  -- who is known to j has not been used up
  have hlive : ∀ i, predB o i = true → freeB C ops.size i j = true → live ops C L i := by
    intro i hp hfr
    unfold predB at hp
    rw [List.any_eq_true] at hp
    obtain ⟨e, he, hb⟩ := hp
    replace he := Array.mem_toList_iff.1 he
    simp only [Bool.and_eq_true, beq_iff_eq] at hb
    have := hpre e he hb.2
    rw [hb.1] at this
    refine ⟨this, fun k hk hL => freeB.spec hfr hk fun e' => ?_⟩
    subst e'
    rw [hjf] at hL; cases hL
  -- what is known
  have hnot : ∀ i oi, ops[i]? = some oi → (i = j ∨ predB oi j = true) → L.getD i false = false := by
    intro i oi hi hor
    cases hL : L.getD i false with
    | false => rfl
    | true =>
      rcases hor with e | hp
      · subst e; rw [hjf] at hL; cases hL
      · unfold predB at hp
        rw [List.any_eq_true] at hp
        obtain ⟨e, he, hb⟩ := hp
        replace he := Array.mem_toList_iff.1 he
        simp only [Bool.and_eq_true, beq_iff_eq] at hb
        have := hI.closed i oi hi hL e he hb.2
        rw [hb.1, hjf] at this
        cases this
  have hk : KnownE ops E C F a0 w0 j o a w O := by
    refine ⟨fun i oi d hi hd hp hfr => hI.fact i oi d hi hd (hlive i hp hfr), fun i hp hfr k hO => ⟨(hI.owns i (hlive i hp hfr) k hO).1, (hI.owns i (hlive i hp hfr) k hO).2.1⟩, fun i i' hp hfr hp' hfr' hne => hI.apart i i' (hlive i hp hfr) (hlive i' hp' hfr') hne, fun t ht => ?_, hI.size, hI.world, fun i oi hi hor k hEk => hI.est i (hnot i oi hi hor) k hEk, fun i i' oi hi hor hp hfr k hEk hO => (hI.owns i' (hlive i' hp hfr) k hO).2.2 i (hnot i oi hi hor) hEk⟩
    refine hI.same t fun i oi hi hL hd => ?_
    unfold initialB at ht
    have hin := (Array.getElem?_eq_some_iff.1 hi).1
    have h5 := List.all_eq_true.1 ht i (List.mem_range.2 hin)
    rw [hi] at h5
    simp only [Bool.or_eq_true, beq_iff_eq] at h5
    rcases h5 with h5 | h5 | h5
    · subst h5; rw [hjf] at hL; cases hL
    · simp [hd] at h5
    · rw [List.any_eq_true] at h5
      obtain ⟨e, he, hb⟩ := h5
      replace he := Array.mem_toList_iff.1 he
      simp only [Bool.and_eq_true, beq_iff_eq] at hb
      have := hI.closed i oi hi hL e he hb.2
      rw [hb.1, hjf] at this
      cases this
  have hob := (ObsE.at_ ops.toList 0 hobs j o (by simpa using ho)).2 a w O (by simpa using hk)
  rw [Nat.zero_add] at hob
  have hsta : ∀ i oi, ops[i]? = some oi → (∀ τ, StableE w0 E (F i τ)) ∧ Leans ops oi (F i) := fun i oi hi => by
    have := (ObsE.at_ ops.toList 0 hobs i oi (by simpa using hi)).1
    rwa [Nat.zero_add] at this
  -- behind it
  have hEj : ∀ k, E j k → ∀ i, live ops C L i → ¬ O i k := fun k hEk i hl hO => (hI.owns i hl k hO).2.2 j hjf hEk
  have hR : ∀ k, Taken (C j) O (E j) k → k < w.heap.size ∧ ¬ Fix w0 E k ∧ ∀ i', L.getD i' false = false → i' ≠ j → ¬ E i' k := by
    rintro k (⟨i, hi, hO⟩ | hEk)
    · have := consB.spec hcons ho hi
      have h := hI.owns i (hlive i this.2 this.1) k hO
      exact ⟨h.1, h.2.1, fun i' hi' _ => h.2.2 i' hi'⟩
    · exact ⟨Nat.lt_of_lt_of_le (hEr j k hEk) hI.world.size, fun hf => hf.2 j hEk, fun i' _ hne hE' => hne (hE _ _ _ hE' hEk)⟩
  have hstep : ∀ v w' O', F j (slots a) v w' O' → Chg (Taken (C j) O (E j)) w w' → (∀ k, O' k → Taken (C j) O (E j) k ∨ (w.heap.size ≤ k ∧ k < w'.heap.size)) →
      K (a.put o.dst v) w' := by
    intro v w' O' hF hC hO'
    have hlv : ∀ i, live ops C (L.setIfInBounds j true) i → i = j ∨ (live ops C L i ∧ i ∉ C j ∧ i ≠ j) := by
      intro i hi
      by_cases e : i = j
      · exact .inl e
      · refine .inr ⟨⟨((hset i).1 hi.1).resolve_left e, fun k hk hL => hi.2 k hk ((hset k).2 (.inr hL))⟩, hi.2 j hjn ((hset j).2 (.inl rfl)), e⟩
    -- a live one's own blocks are none of those that are turned
    have hapart : ∀ i, live ops C L i → i ∉ C j → ∀ k, O i k → ¬ Taken (C j) O (E j) k := by
      rintro i hi hn k hO (⟨i', hi', hO2⟩ | hEk)
      · have := consB.spec hcons ho hi'
        exact hI.apart i i' hi (hlive i' this.2 this.1) (fun e => hn (e ▸ hi')) k hO hO2
      · exact hEj k hEk i hi hO
    have hlean : ∀ i oi, ops[i]? = some oi → (i = j ∨ L.getD i false = true) → F i (slots a) = F i (slots (a.put o.dst v)) := by
      intro i oi hi hor
      refine (hsta i oi hi).2 _ _ fun k ok d hk hd hp => ?_
      refine getD_put_ne fun e => ?_
      have hkj : k = j := okB.once hok hk hd ho e
      unfold predB at hp
      rw [List.any_eq_true] at hp
      obtain ⟨ed, hed, hb⟩ := hp
      replace hed := Array.mem_toList_iff.1 hed
      simp only [Bool.and_eq_true, beq_iff_eq] at hb
      rcases hor with rfl | hL
      · have := okB.edges hok hi ed hed hb.2
        omega
      · have := hI.closed i oi hi hL ed hed hb.2
        rw [hb.1, hkj, hjf] at this
        cases this
    have hstab : ∀ i oi v', ops[i]? = some oi → live ops C L i → i ∉ C j → F i (slots a) v' w (O i) → F i (slots (a.put o.dst v)) v' w' (O i) := by
      intro i oi v' hi hl hn hf
      rw [← hlean i oi hi (.inr hl.1)]
      refine (hsta i oi hi).1 _ _ _ _ _ hf hC.size fun k hk hor => hC.block k hk ?_
      rcases hor with h | h
      · intro hs; exact (hR k hs).2.1 h
      · exact hapart i hl hn k h
    have hnl : ∀ i, (L.setIfInBounds j true).getD i false = false → L.getD i false = false ∧ i ≠ j := by
      intro i hi
      constructor
      · cases hL : L.getD i false with
        | false => rfl
        | true => rw [(hset i).2 (.inr hL)] at hi; cases hi
      · intro e; rw [(hset i).2 (.inl e)] at hi; cases hi
    refine hK (fun i => if i = j then O' else O i) _ _ ⟨by rw [defers_put]; exact hI.defers, by rw [size_put]; exact hI.size, ?_, ?_, ?_, ?_, ?_, ?_, ?_, ?_, by simpa using hI.len⟩
    · intro i oi d hi hd hL
      rcases hlv i hL with e | ⟨hl, hn, hne⟩
      · subst e
        rw [ho] at hi
        obtain rfl := Option.some.inj hi
        have hF' : F i (slots (a.put o.dst v)) v w' O' := by rw [← hlean i o ho (.inl rfl)]; exact hF
        rw [hd] at hF' ⊢
        rw [getD_put_same (by rw [hI.size]; exact okB.size hok ho hd), if_pos rfl]
        exact hF'
      · rw [if_neg hne, getD_put_ne]
        · exact hstab i oi _ hi hl hn (hI.fact i oi d hi hd hl)
        · intro e
          exact hne (okB.once hok hi hd ho e)
    · intro i oi hi hd hL
      rcases hlv i hL with e | ⟨hl, hn, hne⟩
      · subst e
        rw [if_pos rfl, ← hlean i o ho (.inl rfl)]
        exact ⟨v, hF⟩
      · rw [if_neg hne]
        obtain ⟨v', hf⟩ := hI.nofact i oi hi hd hl
        exact ⟨v', hstab i oi _ hi hl hn hf⟩
    · intro i hL k hO
      by_cases e : i = j
      · rw [if_pos e] at hO
        have hz := hC.size
        rcases hO' k hO with h | h
        · have := hR k h
          exact ⟨by omega, this.2.1, fun i' hi' => this.2.2 i' (hnl i' hi').1 (hnl i' hi').2⟩
        · refine ⟨h.2, fun hf => ?_, fun i' hi' hE' => ?_⟩
          · have := hf.1; have := hI.world.size; omega
          · have := hEr i' k hE'; have := hI.world.size; omega
      · rw [if_neg e] at hO
        have := hI.owns i ((hlv i hL).resolve_left e).1 k hO
        have hz := hC.size
        exact ⟨by omega, this.2.1, fun i' hi' => this.2.2 i' (hnl i' hi').1⟩
    · intro i i2 hi hi2 hne k hO hO2
      by_cases e : i = j
      · have e2 : i2 ≠ j := fun h => hne (e.trans h.symm)
        rw [if_pos e] at hO
        rw [if_neg e2] at hO2
        have hl := (hlv i2 hi2).resolve_left e2
        rcases hO' k hO with h | h
        · exact hapart i2 hl.1 hl.2.1 k hO2 h
        · have := (hI.owns i2 hl.1 k hO2).1; omega
      · rw [if_neg e] at hO
        have hl := (hlv i hi).resolve_left e
        by_cases e2 : i2 = j
        · rw [if_pos e2] at hO2
          rcases hO' k hO2 with h | h
          · exact hapart i hl.1 hl.2.1 k hO h
          · have := (hI.owns i hl.1 k hO).1; omega
        · rw [if_neg e2] at hO2
          exact hI.apart i i2 hl.1 ((hlv i2 hi2).resolve_left e2).1 hne k hO hO2
    · intro t ht
      rw [getD_put_ne (ht j o ho ((hset j).2 (.inl rfl)))]
      exact hI.same t fun i oi hi hL => ht i oi hi ((hset i).2 (.inr hL))
    · intro i oi hi hL e he hb
      refine (hset e.on).2 ?_
      rcases (hset i).1 hL with e' | hL3
      · subst e'
        rw [ho] at hi
        obtain rfl := Option.some.inj hi
        exact .inr (hpre e he hb)
      · exact .inr (hI.closed i oi hi hL3 e he hb)
    · have hW := hI.world
      refine ⟨hC.os.trans hW.os, hC.tape.trans hW.tape, hC.output.trans hW.output, Nat.le_trans hW.size hC.size, fun k hk hn => ?_⟩
      rw [hC.block k (Nat.lt_of_lt_of_le hk hW.size) (fun hs => (hR k hs).2.1 ⟨hk, fun i hE' => hn ⟨i, hE'⟩⟩), hW.block k hk hn]
    · intro i hi k hEk
      have hn := hnl i hi
      rw [hC.block k (Nat.lt_of_lt_of_le (hEr i k hEk) hI.world.size) (fun hs => (hR k hs).2.2 i hn.1 hn.2 hEk), hI.est i hn.1 k hEk]
  unfold OwesE at hob
  split
  · rename_i hw
    rw [if_pos hw] at hob
    refine Oper.wp_mono ?_ hob
    rintro a' w' ⟨v, O', rfl, hF, hR, hO'⟩
    exact hstep v w' O' hF hR hO'
  · rename_i hw
    rw [if_neg hw] at hob
    exact hstep undef w _ hob (Chg.refl _ _) (fun _ h => h.elim)

theorem any_of_invE (hE : ∀ i j k, E i k → E j k → i = j) (hEr : ∀ i k, E i k → k < w0.heap.size) (hok : okB ops a0.tmps.size = true) (hcons : consB ops C = true) (hobs : ObsE P ops Q E C F a0 w0 ops.toList 0)
    (hend : ∀ (L : Array Bool) (O : Nat → Nat → Prop) (a : Act) (w : World), (∀ i, i < ops.size → L.getD i false = true) → InvE ops E C F a0 w0 L O a w → Q .normal a w) :
    ∀ (fuel : Nat) (L : Array Bool) (O : Nat → Nat → Prop) (a : Act) (w : World), InvE ops E C F a0 w0 L O a w → (L.toList.filter (· == false)).length ≤ fuel → wpAny P .any ops Q fuel L a w := by
  -- where nothing is ready all has come up
  have hall : ∀ (L : Array Bool) (O : Nat → Nat → Prop) (a : Act) (w : World), InvE ops E C F a0 w0 L O a w → Region.ready .any ops L = [] → ∀ i, i < ops.size → L.getD i false = true := by
    intro L O a w hI hr i
    induction i using Nat.strongRecOn with
    | _ i ih =>
      intro hi
      cases hL : L.getD i false with
      | true => rfl
      | false =>
        exfalso
        have hmem : i ∈ Region.ready .any ops L := by
          unfold Region.ready
          rw [List.mem_filter]
          refine ⟨List.mem_range.2 hi, ?_⟩
          have hL' : L.getD i true = false := by
            have hlt : i < L.size := by rw [hI.len]; exact hi
            simp only [Array.getD, hlt, dite_true] at hL ⊢
            exact hL
          rw [hL', Array.getElem?_eq_getElem hi]
          simp only [Bool.not_false, Bool.true_and, Option.map_some, Option.getD_some]
          rw [Array.all_eq_true_iff_forall_mem]
          intro e he
          cases hb : Region.binds .any e with
          | false => rfl
          | true =>
            have h1 := okB.edges hok (Array.getElem?_eq_getElem hi) e he hb
            rw [ih e.on h1 (by omega)]; rfl
        rw [hr] at hmem
        cases hmem
  intro fuel
  induction fuel with
  | zero =>
    intro L O a w hI hf
    have hr : Region.ready .any ops L = [] := by
      rw [List.eq_nil_iff_forall_not_mem]
      intro i hi
      unfold Region.ready at hi
      rw [List.mem_filter] at hi
      obtain ⟨h1, h2⟩ := hi
      have hlt : i < L.size := by rw [hI.len]; exact List.mem_range.1 h1
      simp only [Bool.and_eq_true, Bool.not_eq_true'] at h2
      have h3 : L[i] = false := by simpa [Array.getD, hlt] using h2.1
      have h4 : false ∈ L.toList.filter (· == false) := by
        rw [List.mem_filter]; exact ⟨by rw [← h3]; simp, rfl⟩
      have h5 := List.length_pos_of_mem h4
      omega
    exact ⟨hr, hend L O a w (hall L O a w hI hr) hI⟩
  | succ fuel ih =>
    intro L O a w hI hf
    refine ⟨fun hr => hend L O a w (hall L O a w hI hr) hI, fun j hj => ?_⟩
    unfold Region.ready at hj
    rw [List.mem_filter] at hj
    obtain ⟨h1, h2⟩ := hj
    have hjn : j < ops.size := List.mem_range.1 h1
    have hjL : j < L.size := by rw [hI.len]; exact hjn
    have ho : ops[j]? = some ops[j] := Array.getElem?_eq_getElem hjn
    generalize ops[j] = o at ho
    rw [ho] at h2
    simp only [Bool.and_eq_true, Bool.not_eq_true', Option.map_some, Option.getD_some] at h2
    obtain ⟨h2, h3⟩ := h2
    have hjf : L.getD j false = false := by
      simp only [Array.getD, hjL, dite_true] at h2 ⊢
      exact h2
    have hpre : ∀ e ∈ o.after, Region.binds .any e = true → L.getD e.on false = true := by
      intro e he hb
      have := Array.all_eq_true_iff_forall_mem.1 h3 e he
      simpa [hb] using this
    have hcount : ((L.setIfInBounds j true).toList.filter (· == false)).length ≤ fuel := by
      have key : ∀ (l : List Bool) (j : Nat), l[j]? = some false → ((l.set j true).filter (· == false)).length + 1 = (l.filter (· == false)).length := by
        intro l
        induction l with
        | nil => intro j h; simp at h
        | cons x r ih =>
          intro j h
          cases j with
          | zero => obtain rfl : x = false := by simpa using h
                    simp
          | succ j =>
            have := ih j (by simpa using h)
            cases x <;> simp_all
      have h6 : L.toList[j]? = some false := by
        rw [Array.getElem?_toList, Array.getElem?_eq_getElem hjL]
        congr 1
        simpa [Array.getD, hjL] using hjf
      have := key L.toList j h6
      rw [Array.toList_setIfInBounds]
      omega
    have hst := inv_stepE hE hEr hok hcons hobs hI ho hjf hpre (K := fun a' w' => wpAny P .any ops Q fuel (L.setIfInBounds j true) a' w') (fun O' a' w' h => ih _ O' a' w' h hcount)
    unfold wpOp
    rw [ho]
    simp only []
    split
    · rename_i hw
      rw [if_pos hw] at hst
      exact .inl hst
    · rename_i hw
      rw [if_neg hw] at hst
      exact hst

theorem list_of_invE (hE : ∀ i j k, E i k → E j k → i = j) (hEr : ∀ i k, E i k → k < w0.heap.size) (hok : okB ops a0.tmps.size = true) (hcons : consB ops C = true) (hobs : ObsE P ops Q E C F a0 w0 ops.toList 0)
    (hend : ∀ (L : Array Bool) (O : Nat → Nat → Prop) (a : Act) (w : World), (∀ i, i < ops.size → L.getD i false = true) → InvE ops E C F a0 w0 L O a w → Q .normal a w) :
    ∀ (n j : Nat) (L : Array Bool) (O : Nat → Nat → Prop) (a : Act) (w : World), ops.size = j + n → InvE ops E C F a0 w0 L O a w → (∀ i, i < ops.size → (L.getD i false = true ↔ i < j)) → wpList P ops Q (ops.toList.drop j) a w := by
  intro n
  induction n with
  | zero =>
    intro j L O a w hn hI hL
    rw [List.drop_eq_nil_of_le (by simp; omega)]
    exact wpList_nil (hend L O a w (fun i hi => (hL i hi).2 (by omega)) hI)
  | succ n ih =>
    intro j L O a w hn hI hL
    have hjn : j < ops.size := by omega
    have ho : ops[j]? = some ops[j] := Array.getElem?_eq_getElem hjn
    have hd : ops.toList.drop j = ops[j] :: ops.toList.drop (j + 1) := by
      rw [List.drop_eq_getElem_cons (by simpa using hjn)]; simp
    rw [hd]
    have hjL : j < L.size := by rw [hI.len]; exact hjn
    have hjf : L.getD j false = false := by
      cases h : L.getD j false with
      | false => rfl
      | true => have := (hL j hjn).1 h; omega
    refine wpList_step fun K hK => inv_stepE hE hEr hok hcons hobs hI ho hjf (fun e he hb => ?_) (fun O' a' w' h => hK a' w' (ih (j + 1) _ O' a' w' (by omega) h fun i hi => ?_))
    · have h1 := okB.edges hok ho e he hb
      exact (hL e.on (by omega)).2 h1
    · by_cases e : i = j
      · subst e; simp [Array.getD, hjL]
      · have : (L.setIfInBounds j true).getD i false = L.getD i false := by
          simp only [Array.getD_eq_getD_getElem?, Array.getElem?_setIfInBounds_ne (fun h => e h.symm)]
        rw [this, hL i hi]; omega

/-- THE REGION. -/
theorem wp_region_est {id : Nat} {a0 : Act} {w0 : World} (hm : P.follows .mixedOrders = true) (E : Nat → Nat → Prop) (C : Nat → List Nat) (F : Nat → (Nat → Value) → Value → World → (Nat → Prop) → Prop) (hE : ∀ i j k, E i k → E j k → i = j) (hEr : ∀ i k, E i k → k < w0.heap.size) (hok : okB ops a0.tmps.size = true) (hcons : consB ops C = true)
    (hobs : ObsE P ops Q E C F a0 w0.drew ops.toList 0)
    (hend : ∀ a w (O : Nat → Nat → Prop), a.defers = a0.defers → a.tmps.size = a0.tmps.size → Chg (fun k => ∃ i, E i k) w0.drew w →
      (∀ (i : Nat) (o : Oper) (d : Nat), ops[i]? = some o → o.dst = some d → (∀ k, k < ops.size → i ∉ C k) → F i (slots a) (a.tmps.getD d undef) w (O i) ∧ ∀ k, O i k → k < w.heap.size ∧ ¬ Fix w0.drew E k) →
      (∀ (i : Nat) (o : Oper), ops[i]? = some o → o.dst = none → (∀ k, k < ops.size → i ∉ C k) → (∃ v, F i (slots a) v w (O i)) ∧ ∀ k, O i k → k < w.heap.size ∧ ¬ Fix w0.drew E k) →
      (∀ i i', i < ops.size → i' < ops.size → (∀ k, k < ops.size → i ∉ C k) → (∀ k, k < ops.size → i' ∉ C k) → i ≠ i' → ∀ k, O i k → ¬ O i' k) →
      (∀ (t : Nat), (∀ (i : Nat) (o : Oper), ops[i]? = some o → o.dst ≠ some t) → a.tmps.getD t undef = a0.tmps.getD t undef) → Q .normal a w) :
    (Code.region id ops true).wp P Q a0 w0 := by
  refine wp_region_any hm ?_
  refine any_of_invE (E := E) (C := C) (F := F) (a0 := a0) (w0 := w0.drew) hE hEr hok hcons hobs ?_ _ _ (fun _ _ => False) _ _ ?_ ?_
  · intro L O a w hL hI
    have hl : ∀ i, i < ops.size → (∀ k, k < ops.size → i ∉ C k) → live ops C L i := fun i hi hn => ⟨hL i hi, fun k hk _ => hn k hk⟩
    refine hend a w O hI.defers hI.size hI.world (fun i o d hi hd hn => ?_) (fun i o hi hd hn => ?_) (fun i i' hi hi' hn hn' hne => hI.apart i i' (hl i hi hn) (hl i' hi' hn') hne) (fun t ht => hI.same t fun i o hi _ => ht i o hi)
    · have hl := hl i (Array.getElem?_eq_some_iff.1 hi).1 hn
      exact ⟨hI.fact i o d hi hd hl, fun k hO => ⟨(hI.owns i hl k hO).1, (hI.owns i hl k hO).2.1⟩⟩
    · have hl := hl i (Array.getElem?_eq_some_iff.1 hi).1 hn
      exact ⟨hI.nofact i o hi hd hl, fun k hO => ⟨(hI.owns i hl k hO).1, (hI.owns i hl k hO).2.1⟩⟩
  · refine ⟨rfl, rfl, ?_, ?_, ?_, ?_, fun _ _ => rfl, ?_, Chg.refl _ _, fun _ _ _ _ => rfl, by simp⟩
    · intro i o d _ _ h; have := h.1; simp [Array.getD] at this
    · intro i o _ _ h; have := h.1; simp [Array.getD] at this
    · intro i _ k h; exact h.elim
    · intro i j _ _ _ k h; exact h.elim
    · intro i o _ h; simp [Array.getD] at h
  · exact Nat.le_trans (List.length_filter_le _ _) (by simp)
/-- The region, where it draws nothing. -/
theorem wp_region_est0 {id : Nat} {a0 : Act} {w0 : World} (E : Nat → Nat → Prop) (C : Nat → List Nat) (F : Nat → (Nat → Value) → Value → World → (Nat → Prop) → Prop) (hE : ∀ i j k, E i k → E j k → i = j) (hEr : ∀ i k, E i k → k < w0.heap.size) (hok : okB ops a0.tmps.size = true) (hcons : consB ops C = true)
    (hobs : ObsE P ops Q E C F a0 w0 ops.toList 0)
    (hend : ∀ a w (O : Nat → Nat → Prop), a.defers = a0.defers → a.tmps.size = a0.tmps.size → Chg (fun k => ∃ i, E i k) w0 w →
      (∀ (i : Nat) (o : Oper) (d : Nat), ops[i]? = some o → o.dst = some d → (∀ k, k < ops.size → i ∉ C k) → F i (slots a) (a.tmps.getD d undef) w (O i) ∧ ∀ k, O i k → k < w.heap.size ∧ ¬ Fix w0 E k) →
      (∀ (i : Nat) (o : Oper), ops[i]? = some o → o.dst = none → (∀ k, k < ops.size → i ∉ C k) → (∃ v, F i (slots a) v w (O i)) ∧ ∀ k, O i k → k < w.heap.size ∧ ¬ Fix w0 E k) →
      (∀ i i', i < ops.size → i' < ops.size → (∀ k, k < ops.size → i ∉ C k) → (∀ k, k < ops.size → i' ∉ C k) → i ≠ i' → ∀ k, O i k → ¬ O i' k) →
      (∀ (t : Nat), (∀ (i : Nat) (o : Oper), ops[i]? = some o → o.dst ≠ some t) → a.tmps.getD t undef = a0.tmps.getD t undef) → Q .normal a w) :
    (Code.region id ops false).wp P Q a0 w0 := by
  refine wp_region_list ?_
  refine list_of_invE (E := E) (C := C) (F := F) (a0 := a0) (w0 := w0) hE hEr hok hcons hobs ?_ ops.size 0 (ops.map fun _ => false) (fun _ _ => False) _ _ (by omega) ?_ (fun i hi => by simp [Array.getD, hi])
  · intro L O a w hL hI
    have hl : ∀ i, i < ops.size → (∀ k, k < ops.size → i ∉ C k) → live ops C L i := fun i hi hn => ⟨hL i hi, fun k hk _ => hn k hk⟩
    refine hend a w O hI.defers hI.size hI.world (fun i o d hi hd hn => ?_) (fun i o hi hd hn => ?_) (fun i i' hi hi' hn hn' hne => hI.apart i i' (hl i hi hn) (hl i' hi' hn') hne) (fun t ht => hI.same t fun i o hi _ => ht i o hi)
    · have hl := hl i (Array.getElem?_eq_some_iff.1 hi).1 hn
      exact ⟨hI.fact i o d hi hd hl, fun k hO => ⟨(hI.owns i hl k hO).1, (hI.owns i hl k hO).2.1⟩⟩
    · have hl := hl i (Array.getElem?_eq_some_iff.1 hi).1 hn
      exact ⟨hI.nofact i o hi hd hl, fun k hO => ⟨(hI.owns i hl k hO).1, (hI.owns i hl k hO).2.1⟩⟩
  · refine ⟨rfl, rfl, ?_, ?_, ?_, ?_, fun _ _ => rfl, ?_, Chg.refl _ _, fun _ _ _ _ => rfl, by simp⟩
    · intro i o d _ _ h; have := h.1; simp [Array.getD] at this
    · intro i o _ _ h; have := h.1; simp [Array.getD] at this
    · intro i _ k h; exact h.elim
    · intro i j _ _ _ k h; exact h.elim
    · intro i o _ h; simp [Array.getD] at h
end
end Go.RegionEYtcgkeolgflphiaa

/-! OpsB -/
namespace Go.RegionInvYtcgkeolgflphiaa
open Go.RowKit Go.Proofs.YtcgkeolgflphiaaW.PrintWords

section
variable {P : Program} {ops : Array Oper} {Q : Exit → Act → World → Prop} {B : Nat} {Cj : List Nat} {O : Nat → Nat → Prop} {G : Value → World → (Nat → Prop) → Prop} {a : Act} {w : World} {o : Oper}

theorem ob_indexAddr {t e : TypeId} {x y : Operand} {p : Addr} {n c i bytes : Nat} {z : Value} (ho : o.op = .indexAddr t x y) (hx : a.eval x = .slice (some p) n c) (hy : a.eval y = .int .i64 i) (hu : P.underlying t = some (.slice e)) (hi : i < n)
    (hinfo : (P.info? e).map (fun i => (i.zero, i.size, i.bytes)) = some (some z, 1, bytes)) (hw : Region.wanted o (yielded ops a.tmps) = true) (hG : G (.pointer (some (p.add i))) w fun _ => False) : Owes P ops Q Cj O G o a w :=
  ob_run hw (by
    have hel : P.elem t = e := by simp [Program.elem, hu]
    obtain ⟨j, hj, hz⟩ := Option.map_eq_some_iff.1 hinfo
    have hs : j.size = 1 := by injection hz with _ hz; injection hz
    unfold execOp; rw [ho]; simp only []; rw [hx, hy]
    simp only [Sem.run_bind, Result.andThen_ok]
    rw [run_indexAt_slice w t p n c .i64 i (by rw [hel]; exact hu), if_pos (by omega), hel]
    simp [sizeOf, typeInfo, hj, hs, Result.andThen]) hG
theorem ob_loadSlice {t e : TypeId} {x : Operand} {p : Addr} {A : Option Addr} {n c : Nat} (ho : o.op = .load t x) (hx : a.eval x = .pointer (some p)) (hu : P.underlying t = some (.slice e)) (hc : w.cell? p = some (.slice A n c)) (hw : Region.wanted o (yielded ops a.tmps) = true) (hG : G (.slice A n c) w fun _ => False) : Owes P ops Q Cj O G o a w :=
  ob_run hw (by unfold execOp; rw [ho]; simp only []; rw [hx]; simp [go_sem, isAgg, run_underlying hu, hc]) hG
end
end Go.RegionInvYtcgkeolgflphiaa

/-! OpsE -/
namespace Go.RegionEYtcgkeolgflphiaa
open Go.RowKit Go.RegionInvYtcgkeolgflphiaa Go.Proofs.YtcgkeolgflphiaaW.PrintWords

section
variable {P : Program} {ops : Array Oper} {Q : Exit → Act → World → Prop} {w0 : World} {E : Nat → Nat → Prop} {Ej : Nat → Prop} {Cj : List Nat} {O : Nat → Nat → Prop} {R : Nat → Prop} {G : Value → World → (Nat → Prop) → Prop} {a : Act} {w : World} {o : Oper}

theorem toE (h : Owes P ops Q Cj O G o a w) : OwesE P ops Q (Taken Cj O Ej) G o a w := by
  unfold Owes at h
  unfold OwesE
  split
  · rename_i hw
    rw [if_pos hw] at h
    refine Oper.wp_mono ?_ h
    rintro a' w' ⟨v, O', rfl, hG, hC, hO⟩
    exact ⟨v, O', rfl, hG, hC.mono fun _ h => .inl h, fun k h => (hO k h).imp .inl id⟩
  · rename_i hw
    rw [if_neg hw] at h
    exact h
theorem obE_res {v : Value} {w' : World} (O' : Nat → Prop) (hw : Region.wanted o (yielded ops a.tmps) = true) (hr : (execOp a.eval o).run P w = .ok (.value v) w') (hC : Chg R w w') (hG : G v w' O')
    (hO : ∀ k, O' k → R k ∨ (w.heap.size ≤ k ∧ k < w'.heap.size)) : OwesE P ops Q R G o a w := by
  unfold OwesE; rw [if_pos hw]; unfold Oper.wp; rw [hr]
  exact ⟨v, O', rfl, hG, hC, hO⟩
theorem obE_run {v : Value} (hw : Region.wanted o (yielded ops a.tmps) = true) (hr : (execOp a.eval o).run P w = .ok (.value v) w) (hG : G v w fun _ => False) : OwesE P ops Q R G o a w :=
  obE_res _ hw hr (Chg.refl _ _) hG fun _ h => h.elim
theorem obE_take {v : Value} (O' : Nat → Prop) (hw : Region.wanted o (yielded ops a.tmps) = true) (hr : (execOp a.eval o).run P w = .ok (.value v) w) (hG : G v w O') (hO : ∀ k, O' k → R k) : OwesE P ops Q R G o a w :=
  obE_res O' hw hr (Chg.refl _ _) hG fun k h => .inl (hO k h)
theorem obE_call {f : FuncId} {fn : Func} {ars : Array Operand} {ts : Array TypeId} (args : Array Value) (hf : P.funcs[f]? = some fn) (hname : (fn.name == "runtime.NumGoroutine") = false) (hb : fn.body.isSome = true)
    (ho : o.op = .call { callee := .value (.func f), args := ars, argTypes := ts }) (hargs : ars.toList.map a.eval = args.toList) (hw : Region.wanted o (yielded ops a.tmps) = true)
    (hc : Calls P f args w fun e w' => ∃ v O', e = .returned v ∧ G v w' O' ∧ Chg R w w' ∧ ∀ k, O' k → R k ∨ (w.heap.size ≤ k ∧ k < w'.heap.size)) : OwesE P ops Q R G o a w := by
  unfold OwesE; rw [if_pos hw]; unfold Oper.wp
  have hr : (execOp a.eval o).run P w = .ok (.enter f args) w := by
    have he := Go.Proofs.YtcgkeolgflphiaaW.PrintLast.enters_ hf hname hb args w
    have hargs' : ars.map a.eval = args := Array.toList_inj.1 (by simpa using hargs)
    unfold execOp
    simp [ho, resolve, Deferred.ofValue, invoke, Act.eval, hargs', he]
  rw [hr]
  refine hc.mono ?_
  rintro e w' ⟨v, O', rfl, hG, hC, hO⟩
  exact ⟨v, O', rfl, hG, hC, hO⟩
/-- A call that only makes what is new. -/
theorem obE_callNew {f : FuncId} {fn : Func} {ars : Array Operand} {ts : Array TypeId} (args : Array Value) (hf : P.funcs[f]? = some fn) (hname : (fn.name == "runtime.NumGoroutine") = false) (hb : fn.body.isSome = true)
    (ho : o.op = .call { callee := .value (.func f), args := ars, argTypes := ts }) (hargs : ars.toList.map a.eval = args.toList) (hw : Region.wanted o (yielded ops a.tmps) = true)
    (hc : Calls P f args w fun e w' => ∃ v, e = .returned v ∧ G v w' (fun k => w.heap.size ≤ k ∧ k < w'.heap.size) ∧ Below w.heap.size w w') : OwesE P ops Q R G o a w := by
  refine obE_call args hf hname hb ho hargs hw (hc.mono ?_)
  rintro e w' ⟨v, rfl, hG, hB⟩
  exact ⟨v, _, rfl, hG, Chg.of_below hB, fun k h => .inr h⟩
theorem obE_list (hw : Region.wanted o (yielded ops a.tmps) = true)
    (h : wpList P ops (fun e a' w' => e = .normal ∧ ∃ v O', a' = a.put o.dst v ∧ G v w' O' ∧ Chg R w w' ∧ ∀ k, O' k → R k ∨ (w.heap.size ≤ k ∧ k < w'.heap.size)) [{ o with guard := none }] a w) : OwesE P ops Q R G o a w := by
  unfold OwesE; rw [if_pos hw]
  unfold wpList at h
  rw [if_pos (wanted_none rfl)] at h
  have he : execOp a.eval { o with guard := none } = execOp a.eval o := by cases o; rfl
  rcases h with h | ⟨_, _, _, h⟩
  · unfold Oper.wp at *
    rw [he] at h
    generalize (execOp a.eval o).run P w = r at *
    cases r with
    | ok n w' =>
      cases n with
      | value v => exact h.2
      | skip => exact h.2
      | defer d => exact h.2
      | enter f args =>
        refine Calls.mono h fun e w'' he => ?_
        cases e with
        | returned v => exact he.2
        | panicked c => exact absurd he.1 (by simp)
        | outgrown => obtain ⟨_, _, h, _⟩ := he; exact absurd h (by simp)
      | row r args => exact Rows.mono h fun _ _ he => he.2
      | _ => simp only [Oper.upon] at h
    | halt x w' =>
      cases x <;> simp only [Oper.upon] at h
      exact absurd h.1 (by simp)
  · exact absurd h.1 (by simp)
/-- A row that grows (an append's law at h). -/
theorem obE_listGrew {B : Nat} {e : TypeId} {size : Nat} {n : Nat} {xs : List Value} (v0 : Value) (hw : Region.wanted o (yielded ops a.tmps) = true) (hO : ∀ k, v0.ownBlock = some k → R k)
    (h : ∀ Q', (∀ v1 w1, w1.ownsRow B e size v1 n xs → w.grownBy w1 v0.ownBlock → (v1.ownBlock = v0.ownBlock ∨ ∃ b, v1.ownBlock = some b ∧ w.heap.size ≤ b) → wpList P ops Q' [] (a.put o.dst v1) w1) → wpList P ops Q' [{ o with guard := none }] a w) :
    OwesE P ops Q R (OwnO B e size n xs) o a w := by
  refine obE_list hw (h _ fun v1 w1 ho hg hat => ⟨rfl, v1, fun k => v1.ownBlock = some k, rfl, ⟨ho, fun _ h => h⟩, (Grew.of_append hg hat).1.mono fun k hk => hO k hk, fun k hk => ?_⟩)
  rcases (Grew.of_append hg hat).2 k hk with h' | h'
  · exact .inl (hO k h')
  · exact .inr ⟨h', own_lt ho k hk⟩

theorem stableE_det (V : Value) : StableE w0 E fun v _ _ => v = V := fun _ _ _ _ h _ _ => h
theorem stableE_pure {p : Value → Prop} : StableE w0 E fun v _ _ => p v := fun _ _ _ _ h _ _ => h
theorem stableE_own (B : Nat) (e : TypeId) (size n : Nat) (xs : List Value) : StableE w0 E (OwnO B e size n xs) := by
  rintro v w w' O ⟨h, hO⟩ hz hk
  exact ⟨ownsRow_same h fun k hv => hk k (own_lt h k hv) (.inr (hO k hv)), hO⟩
theorem stableE_and {G G' : Value → World → (Nat → Prop) → Prop} (h : StableE w0 E G) (h' : StableE w0 E G') : StableE w0 E fun v w O => G v w O ∧ G' v w O :=
  fun v w w' O hg hz hk => ⟨h v w w' O hg.1 hz hk, h' v w w' O hg.2 hz hk⟩
theorem stableE_ex {α : Type} {G : α → Value → World → (Nat → Prop) → Prop} (h : ∀ x, StableE w0 E (G x)) : StableE w0 E fun v w O => ∃ x, G x v w O :=
  fun v w w' O ⟨x, hg⟩ hz hk => ⟨x, h x v w w' O hg hz hk⟩
/-- A block of one's own, as it is. -/
theorem stableE_block (g : Nat) (ob : Obj) : StableE w0 E fun _ w O => w.heap[g]? = some ob ∧ O g :=
  fun _ w w' O hg _ hk => ⟨(hk g (blk_lt hg.1) (.inr hg.2)).trans hg.1, hg.2⟩

theorem reads_lit {w : World} {p : Nat} {k : IntKind} {m : Int} {e : TypeId} (h : w.heap[p]? = some (.cells #[.int k m] e (0, 0))) : ReadsInt w k (some ⟨p, 0, none⟩) 1 [m] :=
  ⟨rfl, by decide, fun _ => ⟨_, rfl, fun j hj => by
    obtain rfl : j = 0 := by omega
    rw [show (⟨p, 0, none⟩ : Addr).add 0 = ⟨p, 0, none⟩ from by simp [Addr.add], cell_of_row _ _ _ _ _ _ h]; rfl⟩⟩
/-- At most two estates. -/
def est2 (i1 i2 : Nat) (A B : Nat → Prop) (i k : Nat) : Prop := (i = i1 ∧ A k) ∨ (i = i2 ∧ B k)
theorem est2_dis {i1 i2 : Nat} {A B : Nat → Prop} (h : ∀ k, A k → B k → False) : ∀ i j k, est2 i1 i2 A B i k → est2 i1 i2 A B j k → i = j := by
  rintro i j k (⟨rfl, ha⟩ | ⟨rfl, hb⟩) (⟨rfl, ha'⟩ | ⟨rfl, hb'⟩)
  · rfl
  · exact (h k ha hb').elim
  · exact (h k ha' hb).elim
  · rfl
theorem est2_range {w : World} {i1 i2 : Nat} {A B : Nat → Prop} (hA : ∀ k, A k → k < w.heap.size) (hB : ∀ k, B k → k < w.heap.size) : ∀ i k, est2 i1 i2 A B i k → k < w.heap.size := by
  rintro i k (⟨rfl, ha⟩ | ⟨rfl, hb⟩)
  · exact hA k ha
  · exact hB k hb
theorem est2_fix {w : World} {i1 i2 : Nat} {A B : Nat → Prop} {k : Nat} (hk : k < w.heap.size) (hA : ¬ A k) (hB : ¬ B k) : Fix w (est2 i1 i2 A B) k := ⟨hk, fun i h => h.elim (fun h => hA h.2) fun h => hB h.2⟩
theorem est2_chg {w w' : World} {i1 i2 : Nat} {A B : Nat → Prop} (h : Chg (fun k => ∃ i, est2 i1 i2 A B i k) w w') : Chg (fun k => A k ∨ B k) w w' := h.mono fun k ⟨_, h⟩ => h.imp And.right And.right
/-- What stands in a block that nobody may change stands there yet. -/
theorem _root_.Go.RegionInvYtcgkeolgflphiaa.Chg.still {S : Nat → Prop} {w w' : World} {k : Nat} {ob : Obj} (h : Chg S w w') (hk : w.heap[k]? = some ob) (hn : ¬ S k) : w'.heap[k]? = some ob := (h.block k (blk_lt hk) hn).trans hk
theorem KnownE.fix {C : Nat → List Nat} {F : Nat → (Nat → Value) → Value → World → (Nat → Prop) → Prop} {a0 : Act} {j : Nat} (h : KnownE ops E C F a0 w0 j o a w O) : ∀ k, Fix w0 E k → w.heap[k]? = w0.heap[k]? :=
  fun k hk => h.world.block k hk.1 fun ⟨i, hi⟩ => hk.2 i hi

theorem obE_store {w' : World} (O' : Nat → Prop) (hw : Region.wanted o (yielded ops a.tmps) = true) (hr : (execOp a.eval o).run P w = .ok .skip w') (hC : Chg R w w') (hG : G undef w' O')
    (hO : ∀ k, O' k → R k ∨ (w.heap.size ≤ k ∧ k < w'.heap.size)) : OwesE P ops Q R G o a w := by
  unfold OwesE; rw [if_pos hw]; unfold Oper.wp; rw [hr]
  exact ⟨undef, O', rfl, hG, hC, hO⟩
theorem obE_loadRow {t t' : TypeId} {g : Nat} {cs : Array Value} {fr : Nat × Nat} {d : TypeDesc} {x : Operand} (ho : o.op = .load t x) (hx : a.eval x = .pointer (some ⟨g, 0, none⟩)) (hg : w.heap[g]? = some (.cells cs t' fr)) (hu : P.underlying t = some d)
    (hd : (match d with | .struct _ | .array _ _ => true | _ => false) = true) (hi : (P.info? t).map (·.size) = some cs.size) (hw : Region.wanted o (yielded ops a.tmps) = true) (hG : G (.agg cs) w fun _ => False) : OwesE P ops Q R G o a w := by
  unfold OwesE; rw [if_pos hw]
  exact wp_load_row t x ho g hx t' cs fr d hg hu hd hi ⟨_, _, rfl, hG, Chg.refl _ _, fun _ h => h.elim⟩
theorem obE_maxInt {t : TypeId} {x y : Operand} {k : IntKind} {m n : Int} (ho : o.op = .call { callee := .builtin .max, args := #[x, y], argTypes := #[t, t] }) (hx : a.eval x = .int k m) (hy : a.eval y = .int k n)
    (hw : Region.wanted o (yielded ops a.tmps) = true) (hG : G (.int k (max m n)) w fun _ => False) : OwesE P ops Q R G o a w :=
  obE_run hw (by
    unfold execOp; rw [ho]
    simp only [resolve, List.map_toArray, List.map_cons, List.map_nil, hx, hy]
    simp only [invoke, Sem.run_bind, Sem.run_pure, Result.andThen_ok]
    simp [go_sem]
    omega) hG
theorem obE_minInt {t : TypeId} {x y : Operand} {k : IntKind} {m n : Int} (ho : o.op = .call { callee := .builtin .min, args := #[x, y], argTypes := #[t, t] }) (hx : a.eval x = .int k m) (hy : a.eval y = .int k n)
    (hw : Region.wanted o (yielded ops a.tmps) = true) (hG : G (.int k (min m n)) w fun _ => False) : OwesE P ops Q R G o a w :=
  obE_run hw (by
    unfold execOp; rw [ho]
    simp only [resolve, List.map_toArray, List.map_cons, List.map_nil, hx, hy]
    simp only [invoke, Sem.run_bind, Sem.run_pure, Result.andThen_ok]
    simp [go_sem]
    omega) hG
theorem obE_lit {cs : Array Value} {e : TypeId} {m : Nat} (hw : Region.wanted o (yielded ops a.tmps) = true) (hr : (execOp a.eval o).run P w = .ok (.value (.slice (some ⟨w.heap.size, 0, none⟩) m m)) (w.alloc (.cells cs e (0, 0)))) (hG : ∀ w', w'.heap[w.heap.size]? = some (.cells cs e (0, 0)) → Below w.heap.size w w' → G (.slice (some ⟨w.heap.size, 0, none⟩) m m) w' fun k => k = w.heap.size) : OwesE P ops Q R G o a w :=
  obE_res (fun k => k = w.heap.size) hw hr (Chg.of_below ((Below.refl _ _).alloc (Nat.le_refl _) _)) (hG _ (blk_new _ _) ((Below.refl _ _).alloc (Nat.le_refl _) _)) (fun k hk => .inr ⟨by omega, by simp; omega⟩)
end
end Go.RegionEYtcgkeolgflphiaa

/-! OpsC -/
namespace Go.RegionEYtcgkeolgflphiaa
open Go.RowKit Go.RegionInvYtcgkeolgflphiaa Go.Proofs.YtcgkeolgflphiaaW.PrintWords
section
variable {P : Program} {ops : Array Oper} {Q : Exit → Act → World → Prop} {R : Nat → Prop} {a : Act} {w : World} {o : Oper}
theorem obE_callV {f : FuncId} {fn : Func} {xs : Array Operand} {ts : Array TypeId} {v : Value} (args : Array Value) (hf : P.funcs[f]? = some fn) (hname : (fn.name == "runtime.NumGoroutine") = false) (hb : fn.body.isSome = true)
    (ho : o.op = .call { callee := .value (.func f), args := xs, argTypes := ts }) (hargs : xs.toList.map a.eval = args.toList) (hw : Region.wanted o (yielded ops a.tmps) = true)
    (hc : Calls P f args w fun e w' => e = .returned v ∧ Below w.heap.size w w') : OwesE P ops Q R (fun u _ _ => u = v) o a w := by
  refine obE_call args hf hname hb ho hargs hw (hc.mono ?_)
  rintro e w' ⟨rfl, hB⟩
  exact ⟨_, fun _ => False, rfl, rfl, Chg.of_below hB, fun k h => h.elim⟩
end
end Go.RegionEYtcgkeolgflphiaa

/-! DOps -/
namespace Go.RegionEYtcgkeolgflphiaa
open Go.RowKit Go.RegionInvYtcgkeolgflphiaa Go.Proofs Go.Proofs.YtcgkeolgflphiaaW.PrintWords Go.Proofs.Ytcgkeolgflphiaa

section
variable {ops : Array Oper} {Q : Exit → Act → World → Prop} {w0 : World} {E : Nat → Nat → Prop} {R : Nat → Prop} {a : Act} {w : World} {o : Oper}
/-- Bytes in a block of one's own that nobody writes. -/
def BytesO (n : Nat) (ys : List Int) (v : Value) (w : World) (O : Nat → Prop) : Prop := ∃ g c, v = .slice (some ⟨g, 0, none⟩) n c ∧ O g ∧ g < w.heap.size ∧ ReadsInt w .u8 (some ⟨g, 0, none⟩) n ys
theorem stableE_bytes (n : Nat) (ys : List Int) : StableE w0 E (BytesO n ys) := by
  rintro v w w' O ⟨g, c, rfl, hO, hz, h1, h2, h3⟩ hsz hk
  refine ⟨g, c, rfl, hO, by omega, h1, h2, fun hn => ?_⟩
  obtain ⟨ad, e, hc⟩ := h3 hn
  obtain rfl := Option.some.inj e
  refine ⟨_, rfl, fun j hj => ?_⟩
  rw [← hc j hj]
  refine cell_same ?_
  rw [add_plain]
  exact hk g hz (.inr hO)
theorem obE_bytes {x : Operand} {str : ByteArray} (ho : o.op = .convert 9 31 x) (hx : a.eval x = .string str) (hw : Region.wanted o (yielded ops a.tmps) = true) (hs : str.size ≤ 9223372036854775807) :
    OwesE Try.prog ops Q R (BytesO str.size (bytesOf str)) o a w := by
  refine obE_res (w' := Lib.bytesWorld w 5 str) (fun k => k = w.heap.size) hw (v := .slice (some ⟨w.heap.size, 0, none⟩) str.size (grownCap w str.size 0 5)) ?_ (Chg.of_below (bytes_below (Below.refl _ _) (Nat.le_refl _) _ _)) ⟨_, _, rfl, rfl, by rw [Lib.bytesWorld_size]; omega, bytes_reads w 5 str hs⟩ (fun k hk => .inr ⟨by omega, by rw [Lib.bytesWorld_size]; omega⟩)
  have hr := print_bytes (P := Try.prog) 9 31 5 Try.underlying9 Try.underlying31 Try.underlying5 str w
  unfold execOp
  rw [ho]
  simp only []
  rw [hx]
  simp [hr]
abbrev PutO (base : Nat) (zs : List Int) : Value → World → (Nat → Prop) → Prop := OwnO base 5 1 zs.length (nums .u8 zs)
theorem obE_put {f : FuncId} {fn : Func} {ars : Array Operand} {ts : Array TypeId} {base : Nat} {v0 : Value} {xs ys zs : List Int} (args : Array Value) (hf : Try.prog.funcs[f]? = some fn) (hname : (fn.name == "runtime.NumGoroutine") = false) (hb : fn.body.isSome = true)
    (ho : o.op = .call { callee := .value (.func f), args := ars, argTypes := ts }) (hargs : ars.toList.map a.eval = args.toList) (hw : Region.wanted o (yielded ops a.tmps) = true) (hR : ∀ k, v0.ownBlock = some k → R k) (hz : zs = xs ++ ys)
    (hc : Calls Try.prog f args w (PutPost base v0 xs ys w)) : OwesE Try.prog ops Q R (PutO base zs) o a w := by
  subst hz
  refine obE_call args hf hname hb ho hargs hw (hc.mono ?_)
  rintro e w' ⟨v', rfl, h1, h2⟩
  exact ⟨v', fun k => v'.ownBlock = some k, rfl, ⟨h1, fun k h => h⟩, h2.1.mono hR, fun k hk => (h2.2 k hk).imp (hR k) fun h => ⟨h, own_lt h1 k hk⟩⟩
theorem ob_toU64 {x : Operand} {n : Int} (ho : o.op = .convert 3 38 x) (hx : a.eval x = .int .i64 n) (h0 : 0 ≤ n) (h1 : n ≤ 9223372036854775807) (hw : Region.wanted o (yielded ops a.tmps) = true) :
    OwesE Try.prog ops Q R (fun v _ _ => v = .int .u64 n) o a w := by
  refine obE_run hw ?_ rfl
  unfold execOp
  rw [ho]
  simp only []
  rw [hx]
  go_simp
  exact IntWalk.u64_in n ⟨h0, by omega⟩
theorem ob_toU8 {x : Operand} {n : Int} (ho : o.op = .convert 3 5 x) (hx : a.eval x = .int .i64 n) (h0 : 0 ≤ n) (h1 : n ≤ 255) (hw : Region.wanted o (yielded ops a.tmps) = true) :
    OwesE Try.prog ops Q R (fun v _ _ => v = .int .u8 n) o a w := by
  refine obE_run hw ?_ rfl
  unfold execOp
  rw [ho]
  simp only []
  rw [hx]
  go_simp
  exact IntWalk.u8_in n ⟨h0, h1⟩
/-- What such a region leaves. -/
theorem put_left {base : Nat} {v0 v' : Value} {zs : List Int} {w0 w' : World} {i i2 : Nat} {O : Nat → Prop} (hc : Chg (fun k => (fun k => v0.ownBlock = some k) k ∨ (fun _ => False) k) w0 w') (hv : PutO base zs v' w' O)
    (hO : ∀ k, O k → k < w'.heap.size ∧ ¬ Fix w0 (est2 i i2 (fun k => v0.ownBlock = some k) (fun _ => False)) k) : OwnB w' base v' zs ∧ Grew v0 v' w0 w' := by
  refine ⟨hv.1, hc.mono fun k h => h.elim id False.elim, fun k hk => ?_⟩
  have h := (hO k (hv.2 k hk)).2
  rcases Nat.lt_or_ge k w0.heap.size with hlt | hge
  · refine .inl (Classical.byContradiction fun hn => h (est2_fix hlt hn (fun h => h)))
  · exact .inr hge
end
end Go.RegionEYtcgkeolgflphiaa

/-! PutTR -/
namespace Go.Proofs.Ytcgkeolgflphiaa
open Go.RowKit Go.Proofs.YtcgkeolgflphiaaW.PrintWords Go.RegionInvYtcgkeolgflphiaa Go.RegionEYtcgkeolgflphiaa
set_option linter.unusedVariables false

theorem reads_apart {w w' : World} {S : Nat → Prop} {k : IntKind} {A : Option Addr} {n : Nat} {xs : List Int} (h : ReadsInt w k A n xs) (hn : ∀ i, i < n → ∃ ad, A = some ad ∧ ad.block < w.heap.size ∧ ¬ S ad.block) (hc : Chg S w w') : ReadsInt w' k A n xs := by
  refine ⟨h.1, h.2.1, fun h0 => ?_⟩
  obtain ⟨ad, e, hcell⟩ := h.2.2 h0
  obtain ⟨ad', e', hlt, hs⟩ := hn 0 h0
  rw [e] at e'
  obtain rfl := Option.some.inj e'
  refine ⟨ad, e, fun j hj => ?_⟩
  rw [← hcell j hj]
  refine cell_same ?_
  have hb : (ad.add j).block = ad.block := by unfold Addr.add; split <;> rfl
  rw [hb]
  exact hc.block _ hlt hs
set_option maxHeartbeats 2000000 in
theorem refPutBytes_grew (base : Nat) (v : Value) (A2 : Option Addr) (m c2 : Nat) (xs ys : List Int) (w : World) (ho : OwnB w base v xs) (hb : base ≤ w.heap.size) (hr2 : ReadsInt w .u8 A2 m ys) (hold : ∀ i, i < m → ∃ ad, A2 = some ad ∧ ad.block < w.heap.size ∧ ¬ v.ownBlock = some ad.block) (hl : xs.length + m ≤ 140737488351232) :
    Calls Try.prog 30 #[v, .slice A2 m c2] w (PutPost base v xs (putB ys) w) := by
  have HO := Aside0.mk ho
  have HR2 := Aside0.mk hr2
  have hM := hr2.1
  have HM := Aside0.mk hM
  have HH := Aside0.mk hold
  have hp := putN_len10 (n := (m : Int)) (by omega)
  clear hr2 hM ho hold
  go_enter Try.func30, Try.ntmps30
  go_wp2_with (first
    | (go_at_call 32; go_must (refine (refPut_calls base v xs (m : Int) _ HO.out hb (by omega) (by omega) (by omega)).mono ?_; rintro e w1 ⟨v1, rfl, ho, hb⟩; have HO1 := Aside0.mk ho; have HB1 := Aside0.mk hb; clear ho hb))
    | (at_builtin; go_must (refine print_append_row (w0 := w1) base rfl (.tmp 9) (.tmp 10) 31 5 .u8 1 rfl Try.underlying31 infoU8 (by decide) v1 (xs ++ putN (m : Int)) ys A2 m c2 rfl rfl HO1.out (reads_apart HR2.out HH.out HB1.out.1) (Below.refl _ _) (Nat.le_trans hb HB1.out.1.size) (by simp only [List.length_append]; omega) ?_; intro v2 w2 ho _ hg hat; have HO2 := Aside0.mk ho; have HB2 := Aside0.mk (HB1.out.trans (Grew.of_append hg hat)); clear ho hg hat)))
  go_ret
  refine ⟨_, rfl, ?_, HB2.out⟩
  unfold putB
  rw [HM.out, ← List.append_assoc]
  exact HO2.out

def pt_ops : List Oper := [
  { dst := some 30, op := Go.Op.move (Go.Operand.tmp 0), type := 31, pos := "decl.go:82", after := #[], guard := none },
  { dst := some 31, op := Go.Op.fieldAddr 27 (Go.Operand.tmp 3) 2, type := 0, pos := "decl.go:82", after := #[], guard := none },
  { dst := some 32, op := Go.Op.load 9 (Go.Operand.tmp 31), type := 9, pos := "decl.go:82", after := #[{ on := 1, ground := Go.Ground.data }], guard := none },
  { dst := some 33, op := Go.Op.convert 9 31 (Go.Operand.tmp 32), type := 31, pos := "decl.go:82", after := #[{ on := 2, ground := Go.Ground.data }], guard := none },
  { dst := some 34, op := Go.Op.call { callee := Go.Callee.value (Go.Operand.func 55), args := #[Go.Operand.tmp 30, Go.Operand.tmp 33], argTypes := #[31, 31] }, type := 31, pos := "decl.go:82", after := #[{ on := 0, ground := Go.Ground.data }, { on := 3, ground := Go.Ground.data }], guard := none },
  { dst := some 35, op := Go.Op.fieldAddr 27 (Go.Operand.tmp 3) 4, type := 0, pos := "decl.go:82", after := #[], guard := none },
  { dst := some 36, op := Go.Op.load 22 (Go.Operand.tmp 35), type := 22, pos := "decl.go:82", after := #[{ on := 5, ground := Go.Ground.data }], guard := none },
  { dst := some 37, op := Go.Op.call { callee := Go.Callee.value (Go.Operand.func 81), args := #[Go.Operand.tmp 34, Go.Operand.tmp 36, Go.Operand.func 80], argTypes := #[31, 22, 89] }, type := 31, pos := "decl.go:82", after := #[{ on := 4, ground := Go.Ground.data }, { on := 6, ground := Go.Ground.data }, { on := 4, ground := Go.Ground.chain }], guard := none },
  { dst := some 4, op := Go.Op.assign (Go.Operand.tmp 37), type := 31, pos := "decl.go:82", after := #[{ on := 7, ground := Go.Ground.data }, { on := 7, ground := Go.Ground.chain }, { on := 0, ground := Go.Ground.phase }, { on := 1, ground := Go.Ground.phase }, { on := 2, ground := Go.Ground.phase }, { on := 3, ground := Go.Ground.phase }, { on := 4, ground := Go.Ground.phase }, { on := 5, ground := Go.Ground.phase }, { on := 6, ground := Go.Ground.phase }, { on := 7, ground := Go.Ground.phase }], guard := none }]
def pt_F (w0 : World) (g : Nat) (p : Pl) (t : Tm) (base : Nat) (V : Value) (xs : List Int) : Nat → (Nat → Value) → Value → World → (Nat → Prop) → Prop := fun rix => match rix with
  | 0 => fun _ v _ _ => v = V
  | 1 => fun _ v _ _ => v = .pointer (some ⟨g, 2, none⟩)
  | 2 => fun _ v _ _ => v = .string t.name
  | 3 => fun τ v w O => BytesO (t.name).size (bytesOf (t.name)) v w O
  | 4 => fun τ v w O => PutO base (xs ++ putB (bytesOf t.name)) v w O
  | 5 => fun _ v _ _ => v = .pointer (some ⟨g, 6, none⟩)
  | 6 => fun _ v _ _ => v = .slice p.B t.ls.length p.d
  | 7 => fun τ v w O => PutO base (xs ++ putB (bytesOf t.name) ++ (putN t.ls.length ++ lvsB t.ls)) v w O
  | 8 => fun τ v w O => PutO base (xs ++ putB (bytesOf t.name) ++ (putN t.ls.length ++ lvsB t.ls)) v w O
  | _ => fun _ _ _ _ => True
def pt_C : Nat → List Nat := fun rix => match rix with
  | 7 => [4]
  | 8 => [7]
  | _ => []
theorem pt_nw0 : nwB pt_ops.toArray 0 = true := by kernel_rfl
theorem pt_nw3 : nwB pt_ops.toArray 3 = true := by kernel_rfl
set_option maxRecDepth 100000 in
set_option maxHeartbeats 8000000 in
theorem pt_obs (w0 : World) (g : Nat) (p : Pl) (t : Tm) (base : Nat) (V : Value) (xs : List Int) (hx : w0.heap[g]? = some (tmO p t)) (ho : OwnB w0 base V xs) (hb : base ≤ w0.heap.size) (hne : ∀ k, V.ownBlock = some k → k ≠ g) (hls : LvIn w0 base p.B p.d (.mk 0 0 t.ls)) (hok : lvsOk t.ls) (hnm : t.name.size ≤ 32) (hsz : xs.length + (putB (bytesOf t.name)).length + (putN t.ls.length ++ lvsB t.ls).length ≤ 140737488350000) (Q : Exit → Act → World → Prop) (a0 : Act) (hi0 : a0.tmps.getD 0 undef = V) (hi3 : a0.tmps.getD 3 undef = .pointer (some ⟨g, 0, none⟩)) :
    ObsE Try.prog pt_ops.toArray Q (est2 4 0 (fun k => V.ownBlock = some k) (fun _ => False)) pt_C (pt_F w0 g p t base V xs) a0 w0 pt_ops.toArray.toList 0 := by
  have nw0 := pt_nw0
  have nw3 := pt_nw3
  refine ⟨?_, ?_, ?_, ?_, ?_, ?_, ?_, ?_, ?_, trivial⟩
  · refine ⟨⟨fun τ => stableE_det _, leans_not⟩, ?_⟩
    intro a w O hk
    have e0 : a.eval (.tmp 0) = V := (hk.init 0 (initialB_of_nw nw0)).trans hi0
    exact toE (ob_move rfl e0 (wanted_none rfl) rfl)
  · refine ⟨⟨fun τ => stableE_det _, leans_not⟩, ?_⟩
    intro a w O hk
    have e3 : a.eval (.tmp 3) = .pointer (some ⟨g, 0, none⟩) := (hk.init 3 (initialB_of_nw nw3)).trans hi3
    have x1 := hk.world.still hx (fun ⟨_, h⟩ => h.elim (fun h => hne _ h.2 rfl) (fun h => h.2))
    obtain ⟨p0, p1, p2, p3, p4, p5, p6, p7⟩ := row8 x1
    have x2 : Below base w0 w := hk.world.below (fun k ⟨_, h⟩ => h.elim (fun h => own_base ho k h.2) (fun h => h.2.elim)) hb
    exact obE_run (wanted_none rfl) (by unfold execOp; simp only []; rw [e3]; go_simp) rfl
  · refine ⟨⟨fun τ => stableE_det _, leans_not⟩, ?_⟩
    intro a w O hk
    have e31 : a.eval (.tmp 31) = .pointer (some ⟨g, 2, none⟩) := hk.fact 1 _ 31 rfl rfl rfl rfl
    have x1 := hk.world.still hx (fun ⟨_, h⟩ => h.elim (fun h => hne _ h.2 rfl) (fun h => h.2))
    obtain ⟨p0, p1, p2, p3, p4, p5, p6, p7⟩ := row8 x1
    have x2 : Below base w0 w := hk.world.below (fun k ⟨_, h⟩ => h.elim (fun h => own_base ho k h.2) (fun h => h.2.elim)) hb
    exact obE_run (wanted_none rfl) (by unfold execOp; simp only []; rw [e31]; go_simp) rfl
  · refine ⟨⟨fun τ => stableE_bytes _ _, leans_not⟩, ?_⟩
    intro a w O hk
    have e32 : a.eval (.tmp 32) = .string t.name := hk.fact 2 _ 32 rfl rfl rfl rfl
    have x1 := hk.world.still hx (fun ⟨_, h⟩ => h.elim (fun h => hne _ h.2 rfl) (fun h => h.2))
    obtain ⟨p0, p1, p2, p3, p4, p5, p6, p7⟩ := row8 x1
    have x2 : Below base w0 w := hk.world.below (fun k ⟨_, h⟩ => h.elim (fun h => own_base ho k h.2) (fun h => h.2.elim)) hb
    exact obE_bytes rfl e32 (wanted_none rfl) (by omega)
  · refine ⟨⟨fun τ => stableE_own _ _ _ _ _, leans_not⟩, ?_⟩
    intro a w O hk
    have e30 : a.eval (.tmp 30) = V := hk.fact 0 _ 30 rfl rfl rfl rfl
    have f33 := hk.fact 3 _ 33 rfl rfl rfl rfl
    have g33 := hk.owns 3 rfl rfl
    have x1 := hk.world.still hx (fun ⟨_, h⟩ => h.elim (fun h => hne _ h.2 rfl) (fun h => h.2))
    obtain ⟨p0, p1, p2, p3, p4, p5, p6, p7⟩ := row8 x1
    have x2 : Below base w0 w := hk.world.below (fun k ⟨_, h⟩ => h.elim (fun h => own_base ho k h.2) (fun h => h.2.elim)) hb
    have ow : OwnB w base V xs := ownsRow_same ho (fun k hv => hk.est 4 _ rfl (.inl rfl) k (.inl ⟨rfl, hv⟩))
    obtain ⟨g1, c1, q1, ho1, hz1, r1⟩ := f33
    have e33 : a.eval (.tmp 33) = .slice (some ⟨g1, 0, none⟩) (t.name).size c1 := q1
    exact obE_put #[V, .slice (some ⟨g1, 0, none⟩) t.name.size c1] rfl rfl rfl rfl (by simp only [List.map_cons, List.map_nil]; rw [e30, e33]; try rfl) (wanted_none rfl) (fun k hv => .inr (.inl ⟨rfl, hv⟩)) rfl (putBytes_grew base V _ _ _ xs (bytesOf t.name) w ow (Nat.le_trans hb hk.world.size) r1 (by omega))
  · refine ⟨⟨fun τ => stableE_det _, leans_not⟩, ?_⟩
    intro a w O hk
    have e3 : a.eval (.tmp 3) = .pointer (some ⟨g, 0, none⟩) := (hk.init 3 (initialB_of_nw nw3)).trans hi3
    have x1 := hk.world.still hx (fun ⟨_, h⟩ => h.elim (fun h => hne _ h.2 rfl) (fun h => h.2))
    obtain ⟨p0, p1, p2, p3, p4, p5, p6, p7⟩ := row8 x1
    have x2 : Below base w0 w := hk.world.below (fun k ⟨_, h⟩ => h.elim (fun h => own_base ho k h.2) (fun h => h.2.elim)) hb
    exact obE_run (wanted_none rfl) (by unfold execOp; simp only []; rw [e3]; go_simp) rfl
  · refine ⟨⟨fun τ => stableE_det _, leans_not⟩, ?_⟩
    intro a w O hk
    have e35 : a.eval (.tmp 35) = .pointer (some ⟨g, 6, none⟩) := hk.fact 5 _ 35 rfl rfl rfl rfl
    have x1 := hk.world.still hx (fun ⟨_, h⟩ => h.elim (fun h => hne _ h.2 rfl) (fun h => h.2))
    obtain ⟨p0, p1, p2, p3, p4, p5, p6, p7⟩ := row8 x1
    have x2 : Below base w0 w := hk.world.below (fun k ⟨_, h⟩ => h.elim (fun h => own_base ho k h.2) (fun h => h.2.elim)) hb
    exact obE_run (wanted_none rfl) (by unfold execOp; simp only []; rw [e35]; go_simp) rfl
  · refine ⟨⟨fun τ => stableE_own _ _ _ _ _, leans_not⟩, ?_⟩
    intro a w O hk
    have f34 := hk.fact 4 _ 34 rfl rfl rfl rfl
    have g34 := hk.owns 4 rfl rfl
    have e36 : a.eval (.tmp 36) = .slice p.B t.ls.length p.d := hk.fact 6 _ 36 rfl rfl rfl rfl
    have x1 := hk.world.still hx (fun ⟨_, h⟩ => h.elim (fun h => hne _ h.2 rfl) (fun h => h.2))
    obtain ⟨p0, p1, p2, p3, p4, p5, p6, p7⟩ := row8 x1
    have x2 : Below base w0 w := hk.world.below (fun k ⟨_, h⟩ => h.elim (fun h => own_base ho k h.2) (fun h => h.2.elim)) hb
    obtain ⟨V4, e4⟩ : ∃ V4, a.eval (.tmp 34) = V4 := ⟨_, rfl⟩
    have f4 : PutO base (xs ++ putB (bytesOf t.name)) (a.eval (.tmp 34)) w (O 4) := f34
    rw [e4] at f4
    exact obE_put #[V4, .slice p.B t.ls.length p.d, .func (.func 80) #[] #[]] rfl rfl rfl rfl (by simp only [List.map_cons, List.map_nil]; rw [e4, e36]; try rfl) (wanted_none rfl) (fun k hv => .inl ⟨4, by simp [pt_C], f4.2 k hv⟩) rfl (putLevels_calls t.ls hok p.B _ p.d base V4 (xs ++ putB (bytesOf t.name)) w rfl (hls.stay x2) f4.1 (Nat.le_trans hb hk.world.size) (by rw [List.length_append]; exact hsz))
  · refine ⟨⟨fun τ => stableE_own _ _ _ _ _, leans_not⟩, ?_⟩
    intro a w O hk
    have f37 := hk.fact 7 _ 37 rfl rfl rfl rfl
    have g37 := hk.owns 7 rfl rfl
    exact toE (ob_assignO (O 7) rfl rfl (wanted_none rfl) f37 (fun k h => ⟨7, by simp [pt_C], h⟩))
set_option maxRecDepth 100000 in
set_option maxHeartbeats 8000000 in
theorem pt_region {Q : Exit → Act → World → Prop} {id : Nat} (w0 : World) (g : Nat) (p : Pl) (t : Tm) (base : Nat) (V : Value) (xs : List Int) {s1 s2 s4 s5 s6 s7 s8 s9 s10 s11 s12 s13 s14 s15 s16 s17 s18 s19 s20 s21 s22 s23 s24 s25 s26 s27 s28 s29 s30 s31 s32 s33 s34 s35 s36 s37 s38 s39 s40 s41 s42 s43 s44 s45 s46 s47 s48 s49 : Value} (hx : w0.heap[g]? = some (tmO p t)) (ho : OwnB w0 base V xs) (hb : base ≤ w0.heap.size) (hne : ∀ k, V.ownBlock = some k → k ≠ g) (hls : LvIn w0 base p.B p.d (.mk 0 0 t.ls)) (hok : lvsOk t.ls) (hnm : t.name.size ≤ 32) (hsz : xs.length + (putB (bytesOf t.name)).length + (putN t.ls.length ++ lvsB t.ls).length ≤ 140737488350000)
    (hend : ∀ (w' : World) (u4 : Value) (u33 : Value) (u34 : Value) (u37 : Value) (O8 : Nat → Prop) (O3 : Nat → Prop), Chg (fun k => (fun k => V.ownBlock = some k) k ∨ (fun _ => False) k) w0 w' → (PutO base (xs ++ putB (bytesOf t.name) ++ (putN t.ls.length ++ lvsB t.ls)) u4 w' O8) → (∀ k, O8 k → k < w'.heap.size ∧ ¬ Fix w0 (est2 4 0 (fun k => V.ownBlock = some k) (fun _ => False)) k) → (BytesO (t.name).size (bytesOf (t.name)) u33 w' O3) → (∀ k, O3 k → k < w'.heap.size ∧ ¬ Fix w0 (est2 4 0 (fun k => V.ownBlock = some k) (fun _ => False)) k) → Q .normal { tmps := (V :: s1 :: s2 :: (.pointer (some ⟨g, 0, none⟩) : Value) :: u4 :: s5 :: s6 :: s7 :: s8 :: s9 :: s10 :: s11 :: s12 :: s13 :: s14 :: s15 :: s16 :: s17 :: s18 :: s19 :: s20 :: s21 :: s22 :: s23 :: s24 :: s25 :: s26 :: s27 :: s28 :: s29 :: V :: (.pointer (some ⟨g, 2, none⟩) : Value) :: (.string t.name : Value) :: u33 :: u34 :: (.pointer (some ⟨g, 6, none⟩) : Value) :: (.slice p.B t.ls.length p.d : Value) :: u37 :: s38 :: s39 :: s40 :: s41 :: s42 :: s43 :: s44 :: s45 :: s46 :: s47 :: s48 :: s49 :: ([] : List Value)).toArray, defers := [] } w') :
    (Code.region id pt_ops.toArray true).wp Try.prog Q { tmps := (V :: s1 :: s2 :: (.pointer (some ⟨g, 0, none⟩) : Value) :: s4 :: s5 :: s6 :: s7 :: s8 :: s9 :: s10 :: s11 :: s12 :: s13 :: s14 :: s15 :: s16 :: s17 :: s18 :: s19 :: s20 :: s21 :: s22 :: s23 :: s24 :: s25 :: s26 :: s27 :: s28 :: s29 :: s30 :: s31 :: s32 :: s33 :: s34 :: s35 :: s36 :: s37 :: s38 :: s39 :: s40 :: s41 :: s42 :: s43 :: s44 :: s45 :: s46 :: s47 :: s48 :: s49 :: ([] : List Value)).toArray, defers := [] } w0 := by
  refine wp_region_est (by kernel_rfl) (est2 4 0 (fun k => V.ownBlock = some k) (fun _ => False)) pt_C (pt_F w0 g p t base V xs) (est2_dis (fun _ _ h => h)) (est2_range (fun k hk => own_size ho hk) (fun _ h => h.elim)) (by rfl) (by kernel_rfl) (pt_obs w0.drew g p t base V xs hx ho hb hne (LvS.same hls (fun _ _ _ => rfl)) hok hnm hsz _ _ rfl rfl) ?_
  intro a w' O hd hs hb hf hf2 ha hsame
  have hx : ∀ (qi : Nat) (qv : Value), nwB pt_ops.toArray qi = true → (V :: s1 :: s2 :: (.pointer (some ⟨g, 0, none⟩) : Value) :: s4 :: s5 :: s6 :: s7 :: s8 :: s9 :: s10 :: s11 :: s12 :: s13 :: s14 :: s15 :: s16 :: s17 :: s18 :: s19 :: s20 :: s21 :: s22 :: s23 :: s24 :: s25 :: s26 :: s27 :: s28 :: s29 :: s30 :: s31 :: s32 :: s33 :: s34 :: s35 :: s36 :: s37 :: s38 :: s39 :: s40 :: s41 :: s42 :: s43 :: s44 :: s45 :: s46 :: s47 :: s48 :: s49 :: ([] : List Value)).toArray.getD qi undef = qv → a.tmps.getD qi undef = qv := fun qi qv h e => (hsame qi (nwB.spec h)).trans e
  have x0 := hx 0 V (by kernel_rfl) rfl
  have x1 := hx 1 s1 (by kernel_rfl) rfl
  have x2 := hx 2 s2 (by kernel_rfl) rfl
  have x3 := hx 3 (.pointer (some ⟨g, 0, none⟩)) (by kernel_rfl) rfl
  have x5 := hx 5 s5 (by kernel_rfl) rfl
  have x6 := hx 6 s6 (by kernel_rfl) rfl
  have x7 := hx 7 s7 (by kernel_rfl) rfl
  have x8 := hx 8 s8 (by kernel_rfl) rfl
  have x9 := hx 9 s9 (by kernel_rfl) rfl
  have x10 := hx 10 s10 (by kernel_rfl) rfl
  have x11 := hx 11 s11 (by kernel_rfl) rfl
  have x12 := hx 12 s12 (by kernel_rfl) rfl
  have x13 := hx 13 s13 (by kernel_rfl) rfl
  have x14 := hx 14 s14 (by kernel_rfl) rfl
  have x15 := hx 15 s15 (by kernel_rfl) rfl
  have x16 := hx 16 s16 (by kernel_rfl) rfl
  have x17 := hx 17 s17 (by kernel_rfl) rfl
  have x18 := hx 18 s18 (by kernel_rfl) rfl
  have x19 := hx 19 s19 (by kernel_rfl) rfl
  have x20 := hx 20 s20 (by kernel_rfl) rfl
  have x21 := hx 21 s21 (by kernel_rfl) rfl
  have x22 := hx 22 s22 (by kernel_rfl) rfl
  have x23 := hx 23 s23 (by kernel_rfl) rfl
  have x24 := hx 24 s24 (by kernel_rfl) rfl
  have x25 := hx 25 s25 (by kernel_rfl) rfl
  have x26 := hx 26 s26 (by kernel_rfl) rfl
  have x27 := hx 27 s27 (by kernel_rfl) rfl
  have x28 := hx 28 s28 (by kernel_rfl) rfl
  have x29 := hx 29 s29 (by kernel_rfl) rfl
  have x30 : a.tmps.getD 30 undef = V := (hf 0 _ 30 rfl rfl (by decide)).1
  have x31 : a.tmps.getD 31 undef = .pointer (some ⟨g, 2, none⟩) := (hf 1 _ 31 rfl rfl (by decide)).1
  have x32 : a.tmps.getD 32 undef = .string t.name := (hf 2 _ 32 rfl rfl (by decide)).1
  have x35 : a.tmps.getD 35 undef = .pointer (some ⟨g, 6, none⟩) := (hf 5 _ 35 rfl rfl (by decide)).1
  have x36 : a.tmps.getD 36 undef = .slice p.B t.ls.length p.d := (hf 6 _ 36 rfl rfl (by decide)).1
  have x38 := hx 38 s38 (by kernel_rfl) rfl
  have x39 := hx 39 s39 (by kernel_rfl) rfl
  have x40 := hx 40 s40 (by kernel_rfl) rfl
  have x41 := hx 41 s41 (by kernel_rfl) rfl
  have x42 := hx 42 s42 (by kernel_rfl) rfl
  have x43 := hx 43 s43 (by kernel_rfl) rfl
  have x44 := hx 44 s44 (by kernel_rfl) rfl
  have x45 := hx 45 s45 (by kernel_rfl) rfl
  have x46 := hx 46 s46 (by kernel_rfl) rfl
  have x47 := hx 47 s47 (by kernel_rfl) rfl
  have x48 := hx 48 s48 (by kernel_rfl) rfl
  have x49 := hx 49 s49 (by kernel_rfl) rfl
  have hl : a.tmps = (V :: s1 :: s2 :: (.pointer (some ⟨g, 0, none⟩) : Value) :: (a.tmps.getD 4 undef : Value) :: s5 :: s6 :: s7 :: s8 :: s9 :: s10 :: s11 :: s12 :: s13 :: s14 :: s15 :: s16 :: s17 :: s18 :: s19 :: s20 :: s21 :: s22 :: s23 :: s24 :: s25 :: s26 :: s27 :: s28 :: s29 :: V :: (.pointer (some ⟨g, 2, none⟩) : Value) :: (.string t.name : Value) :: (a.tmps.getD 33 undef : Value) :: (a.tmps.getD 34 undef : Value) :: (.pointer (some ⟨g, 6, none⟩) : Value) :: (.slice p.B t.ls.length p.d : Value) :: (a.tmps.getD 37 undef : Value) :: s38 :: s39 :: s40 :: s41 :: s42 :: s43 :: s44 :: s45 :: s46 :: s47 :: s48 :: s49 :: ([] : List Value)).toArray := by
    have h := lit a.tmps 50 hs
    have e : ((List.range 50).map (fun i => a.tmps.getD i undef)).toArray = ((a.tmps.getD 0 undef : Value) :: (a.tmps.getD 1 undef : Value) :: (a.tmps.getD 2 undef : Value) :: (a.tmps.getD 3 undef : Value) :: (a.tmps.getD 4 undef : Value) :: (a.tmps.getD 5 undef : Value) :: (a.tmps.getD 6 undef : Value) :: (a.tmps.getD 7 undef : Value) :: (a.tmps.getD 8 undef : Value) :: (a.tmps.getD 9 undef : Value) :: (a.tmps.getD 10 undef : Value) :: (a.tmps.getD 11 undef : Value) :: (a.tmps.getD 12 undef : Value) :: (a.tmps.getD 13 undef : Value) :: (a.tmps.getD 14 undef : Value) :: (a.tmps.getD 15 undef : Value) :: (a.tmps.getD 16 undef : Value) :: (a.tmps.getD 17 undef : Value) :: (a.tmps.getD 18 undef : Value) :: (a.tmps.getD 19 undef : Value) :: (a.tmps.getD 20 undef : Value) :: (a.tmps.getD 21 undef : Value) :: (a.tmps.getD 22 undef : Value) :: (a.tmps.getD 23 undef : Value) :: (a.tmps.getD 24 undef : Value) :: (a.tmps.getD 25 undef : Value) :: (a.tmps.getD 26 undef : Value) :: (a.tmps.getD 27 undef : Value) :: (a.tmps.getD 28 undef : Value) :: (a.tmps.getD 29 undef : Value) :: (a.tmps.getD 30 undef : Value) :: (a.tmps.getD 31 undef : Value) :: (a.tmps.getD 32 undef : Value) :: (a.tmps.getD 33 undef : Value) :: (a.tmps.getD 34 undef : Value) :: (a.tmps.getD 35 undef : Value) :: (a.tmps.getD 36 undef : Value) :: (a.tmps.getD 37 undef : Value) :: (a.tmps.getD 38 undef : Value) :: (a.tmps.getD 39 undef : Value) :: (a.tmps.getD 40 undef : Value) :: (a.tmps.getD 41 undef : Value) :: (a.tmps.getD 42 undef : Value) :: (a.tmps.getD 43 undef : Value) :: (a.tmps.getD 44 undef : Value) :: (a.tmps.getD 45 undef : Value) :: (a.tmps.getD 46 undef : Value) :: (a.tmps.getD 47 undef : Value) :: (a.tmps.getD 48 undef : Value) :: (a.tmps.getD 49 undef : Value) :: ([] : List Value)).toArray := rfl
    rw [e, x0, x1, x2, x3, x5, x6, x7, x8, x9, x10, x11, x12, x13, x14, x15, x16, x17, x18, x19, x20, x21, x22, x23, x24, x25, x26, x27, x28, x29, x30, x31, x32, x35, x36, x38, x39, x40, x41, x42, x43, x44, x45, x46, x47, x48, x49] at h
    exact h
  obtain ⟨tmps, defers⟩ := a
  obtain rfl : defers = [] := hd
  have hl' : tmps = _ := hl
  rw [hl']
  have hb' := est2_chg hb
  exact hend w' _ _ _ _ (O 8) (O 3) ⟨hb'.os, hb'.tape, hb'.output, hb'.size, hb'.block⟩ (hf 8 _ 4 rfl rfl (by decide)).1 (hf 8 _ 4 rfl rfl (by decide)).2 (hf 3 _ 33 rfl rfl (by decide)).1 (hf 3 _ 33 rfl rfl (by decide)).2

def rt_ops : List Oper := [
  { dst := some 32, op := Go.Op.move (Go.Operand.tmp 0), type := 31, pos := "ref.go:315", after := #[], guard := none },
  { dst := some 33, op := Go.Op.fieldAddr 27 (Go.Operand.tmp 3) 2, type := 0, pos := "ref.go:315", after := #[], guard := none },
  { dst := some 34, op := Go.Op.load 9 (Go.Operand.tmp 33), type := 9, pos := "ref.go:315", after := #[{ on := 1, ground := Go.Ground.data }], guard := none },
  { dst := some 35, op := Go.Op.convert 9 31 (Go.Operand.tmp 34), type := 31, pos := "ref.go:315", after := #[{ on := 2, ground := Go.Ground.data }], guard := none },
  { dst := some 36, op := Go.Op.call { callee := Go.Callee.value (Go.Operand.func 30), args := #[Go.Operand.tmp 32, Go.Operand.tmp 35], argTypes := #[31, 31] }, type := 31, pos := "ref.go:315", after := #[{ on := 0, ground := Go.Ground.data }, { on := 3, ground := Go.Ground.data }], guard := none },
  { dst := some 37, op := Go.Op.fieldAddr 27 (Go.Operand.tmp 3) 4, type := 0, pos := "ref.go:315", after := #[], guard := none },
  { dst := some 38, op := Go.Op.load 22 (Go.Operand.tmp 37), type := 22, pos := "ref.go:315", after := #[{ on := 5, ground := Go.Ground.data }], guard := none },
  { dst := some 39, op := Go.Op.call { callee := Go.Callee.builtin Go.Builtin.len, args := #[Go.Operand.tmp 38], argTypes := #[22] }, type := 3, pos := "ref.go:315", after := #[{ on := 6, ground := Go.Ground.data }], guard := none },
  { dst := some 40, op := Go.Op.convert 3 38 (Go.Operand.tmp 39), type := 38, pos := "ref.go:315", after := #[{ on := 7, ground := Go.Ground.data }], guard := none },
  { dst := some 41, op := Go.Op.call { callee := Go.Callee.value (Go.Operand.func 32), args := #[Go.Operand.tmp 36, Go.Operand.tmp 40], argTypes := #[31, 38] }, type := 31, pos := "ref.go:315", after := #[{ on := 4, ground := Go.Ground.data }, { on := 8, ground := Go.Ground.data }, { on := 4, ground := Go.Ground.chain }], guard := none },
  { dst := some 0, op := Go.Op.assign (Go.Operand.tmp 41), type := 31, pos := "ref.go:315", after := #[{ on := 9, ground := Go.Ground.data }, { on := 9, ground := Go.Ground.chain }, { on := 0, ground := Go.Ground.phase }, { on := 1, ground := Go.Ground.phase }, { on := 2, ground := Go.Ground.phase }, { on := 3, ground := Go.Ground.phase }, { on := 4, ground := Go.Ground.phase }, { on := 5, ground := Go.Ground.phase }, { on := 6, ground := Go.Ground.phase }, { on := 7, ground := Go.Ground.phase }, { on := 8, ground := Go.Ground.phase }, { on := 9, ground := Go.Ground.phase }], guard := none }]
def rt_F (w0 : World) (g : Nat) (p : Pl) (t : Tm) (base : Nat) (V : Value) (xs : List Int) : Nat → (Nat → Value) → Value → World → (Nat → Prop) → Prop := fun rix => match rix with
  | 0 => fun _ v _ _ => v = V
  | 1 => fun _ v _ _ => v = .pointer (some ⟨g, 2, none⟩)
  | 2 => fun _ v _ _ => v = .string t.name
  | 3 => fun τ v w O => BytesO (t.name).size (bytesOf (t.name)) v w O
  | 4 => fun τ v w O => PutO base (xs ++ putB (bytesOf t.name)) v w O
  | 5 => fun _ v _ _ => v = .pointer (some ⟨g, 6, none⟩)
  | 6 => fun _ v _ _ => v = .slice p.B t.ls.length p.d
  | 7 => fun _ v _ _ => v = .int .i64 t.ls.length
  | 8 => fun _ v _ _ => v = .int .u64 t.ls.length
  | 9 => fun τ v w O => PutO base (xs ++ putB (bytesOf t.name) ++ putN t.ls.length) v w O
  | 10 => fun τ v w O => PutO base (xs ++ putB (bytesOf t.name) ++ putN t.ls.length) v w O
  | _ => fun _ _ _ _ => True
def rt_C : Nat → List Nat := fun rix => match rix with
  | 9 => [4]
  | 10 => [9]
  | _ => []
theorem rt_nw3 : nwB rt_ops.toArray 3 = true := by kernel_rfl
set_option maxRecDepth 100000 in
set_option maxHeartbeats 8000000 in
theorem rt_obs (w0 : World) (g : Nat) (p : Pl) (t : Tm) (base : Nat) (V : Value) (xs : List Int) (hx : w0.heap[g]? = some (tmO p t)) (ho : OwnB w0 base V xs) (hb : base ≤ w0.heap.size) (hne : ∀ k, V.ownBlock = some k → k ≠ g) (hls : LvIn w0 base p.B p.d (.mk 0 0 t.ls)) (hok : lvsOk t.ls) (hnm : t.name.size ≤ 32) (hsz : xs.length + (putB (bytesOf t.name)).length + (putN t.ls.length ++ lvsB t.ls).length ≤ 140737488350000) (hl6 : t.ls.length ≤ 6) (Q : Exit → Act → World → Prop) (a0 : Act) (hi0 : a0.tmps.getD 0 undef = V) (hi3 : a0.tmps.getD 3 undef = .pointer (some ⟨g, 0, none⟩)) :
    ObsE Try.prog rt_ops.toArray Q (est2 4 0 (fun k => V.ownBlock = some k) (fun _ => False)) rt_C (rt_F w0 g p t base V xs) a0 w0 rt_ops.toArray.toList 0 := by
  have nw3 := rt_nw3
  refine ⟨?_, ?_, ?_, ?_, ?_, ?_, ?_, ?_, ?_, ?_, ?_, trivial⟩
  · refine ⟨⟨fun τ => stableE_det _, leans_not⟩, ?_⟩
    intro a w O hk
    have e0 : a.eval (.tmp 0) = V := (hk.init 0 rfl).trans hi0
    exact toE (ob_move rfl e0 (wanted_none rfl) rfl)
  · refine ⟨⟨fun τ => stableE_det _, leans_not⟩, ?_⟩
    intro a w O hk
    have e3 : a.eval (.tmp 3) = .pointer (some ⟨g, 0, none⟩) := (hk.init 3 (initialB_of_nw nw3)).trans hi3
    have x1 := hk.world.still hx (fun ⟨_, h⟩ => h.elim (fun h => hne _ h.2 rfl) (fun h => h.2))
    obtain ⟨p0, p1, p2, p3, p4, p5, p6, p7⟩ := row8 x1
    have x2 : Below base w0 w := hk.world.below (fun k ⟨_, h⟩ => h.elim (fun h => own_base ho k h.2) (fun h => h.2.elim)) hb
    exact obE_run (wanted_none rfl) (by unfold execOp; simp only []; rw [e3]; go_simp) rfl
  · refine ⟨⟨fun τ => stableE_det _, leans_not⟩, ?_⟩
    intro a w O hk
    have e33 : a.eval (.tmp 33) = .pointer (some ⟨g, 2, none⟩) := hk.fact 1 _ 33 rfl rfl rfl rfl
    have x1 := hk.world.still hx (fun ⟨_, h⟩ => h.elim (fun h => hne _ h.2 rfl) (fun h => h.2))
    obtain ⟨p0, p1, p2, p3, p4, p5, p6, p7⟩ := row8 x1
    have x2 : Below base w0 w := hk.world.below (fun k ⟨_, h⟩ => h.elim (fun h => own_base ho k h.2) (fun h => h.2.elim)) hb
    exact obE_run (wanted_none rfl) (by unfold execOp; simp only []; rw [e33]; go_simp) rfl
  · refine ⟨⟨fun τ => stableE_bytes _ _, leans_not⟩, ?_⟩
    intro a w O hk
    have e34 : a.eval (.tmp 34) = .string t.name := hk.fact 2 _ 34 rfl rfl rfl rfl
    have x1 := hk.world.still hx (fun ⟨_, h⟩ => h.elim (fun h => hne _ h.2 rfl) (fun h => h.2))
    obtain ⟨p0, p1, p2, p3, p4, p5, p6, p7⟩ := row8 x1
    have x2 : Below base w0 w := hk.world.below (fun k ⟨_, h⟩ => h.elim (fun h => own_base ho k h.2) (fun h => h.2.elim)) hb
    exact obE_bytes rfl e34 (wanted_none rfl) (by omega)
  · refine ⟨⟨fun τ => stableE_own _ _ _ _ _, leans_not⟩, ?_⟩
    intro a w O hk
    have e32 : a.eval (.tmp 32) = V := hk.fact 0 _ 32 rfl rfl rfl rfl
    have f35 := hk.fact 3 _ 35 rfl rfl rfl rfl
    have g35 := hk.owns 3 rfl rfl
    have x1 := hk.world.still hx (fun ⟨_, h⟩ => h.elim (fun h => hne _ h.2 rfl) (fun h => h.2))
    obtain ⟨p0, p1, p2, p3, p4, p5, p6, p7⟩ := row8 x1
    have x2 : Below base w0 w := hk.world.below (fun k ⟨_, h⟩ => h.elim (fun h => own_base ho k h.2) (fun h => h.2.elim)) hb
    have ow : OwnB w base V xs := ownsRow_same ho (fun k hv => hk.est 4 _ rfl (.inl rfl) k (.inl ⟨rfl, hv⟩))
    obtain ⟨g1, c1, q1, ho1, hz1, r1⟩ := f35
    have e35 : a.eval (.tmp 35) = .slice (some ⟨g1, 0, none⟩) (t.name).size c1 := q1
    exact obE_put #[V, .slice (some ⟨g1, 0, none⟩) t.name.size c1] rfl rfl rfl rfl (by simp only [List.map_cons, List.map_nil]; rw [e32, e35]; try rfl) (wanted_none rfl) (fun k hv => .inr (.inl ⟨rfl, hv⟩)) rfl (refPutBytes_grew base V _ _ _ xs (bytesOf t.name) w ow (Nat.le_trans hb hk.world.size) r1 (fun i _ => ⟨_, rfl, hz1, fun hv => hk.away 4 3 _ rfl (.inl rfl) rfl rfl g1 (.inl ⟨rfl, hv⟩) ho1⟩) (by omega))
  · refine ⟨⟨fun τ => stableE_det _, leans_not⟩, ?_⟩
    intro a w O hk
    have e3 : a.eval (.tmp 3) = .pointer (some ⟨g, 0, none⟩) := (hk.init 3 (initialB_of_nw nw3)).trans hi3
    have x1 := hk.world.still hx (fun ⟨_, h⟩ => h.elim (fun h => hne _ h.2 rfl) (fun h => h.2))
    obtain ⟨p0, p1, p2, p3, p4, p5, p6, p7⟩ := row8 x1
    have x2 : Below base w0 w := hk.world.below (fun k ⟨_, h⟩ => h.elim (fun h => own_base ho k h.2) (fun h => h.2.elim)) hb
    exact obE_run (wanted_none rfl) (by unfold execOp; simp only []; rw [e3]; go_simp) rfl
  · refine ⟨⟨fun τ => stableE_det _, leans_not⟩, ?_⟩
    intro a w O hk
    have e37 : a.eval (.tmp 37) = .pointer (some ⟨g, 6, none⟩) := hk.fact 5 _ 37 rfl rfl rfl rfl
    have x1 := hk.world.still hx (fun ⟨_, h⟩ => h.elim (fun h => hne _ h.2 rfl) (fun h => h.2))
    obtain ⟨p0, p1, p2, p3, p4, p5, p6, p7⟩ := row8 x1
    have x2 : Below base w0 w := hk.world.below (fun k ⟨_, h⟩ => h.elim (fun h => own_base ho k h.2) (fun h => h.2.elim)) hb
    exact obE_run (wanted_none rfl) (by unfold execOp; simp only []; rw [e37]; go_simp) rfl
  · refine ⟨⟨fun τ => stableE_det _, leans_not⟩, ?_⟩
    intro a w O hk
    have e38 : a.eval (.tmp 38) = .slice p.B t.ls.length p.d := hk.fact 6 _ 38 rfl rfl rfl rfl
    exact toE (ob_len rfl e38 Try.underlying22 (wanted_none rfl) rfl)
  · refine ⟨⟨fun τ => stableE_det _, leans_not⟩, ?_⟩
    intro a w O hk
    have e39 : a.eval (.tmp 39) = .int .i64 t.ls.length := hk.fact 7 _ 39 rfl rfl rfl rfl
    have x1 := hk.world.still hx (fun ⟨_, h⟩ => h.elim (fun h => hne _ h.2 rfl) (fun h => h.2))
    obtain ⟨p0, p1, p2, p3, p4, p5, p6, p7⟩ := row8 x1
    have x2 : Below base w0 w := hk.world.below (fun k ⟨_, h⟩ => h.elim (fun h => own_base ho k h.2) (fun h => h.2.elim)) hb
    exact ob_toU64 rfl e39 (by omega) (by omega) (wanted_none rfl)
  · refine ⟨⟨fun τ => stableE_own _ _ _ _ _, leans_not⟩, ?_⟩
    intro a w O hk
    have f36 := hk.fact 4 _ 36 rfl rfl rfl rfl
    have g36 := hk.owns 4 rfl rfl
    have e40 : a.eval (.tmp 40) = .int .u64 t.ls.length := hk.fact 8 _ 40 rfl rfl rfl rfl
    have x1 := hk.world.still hx (fun ⟨_, h⟩ => h.elim (fun h => hne _ h.2 rfl) (fun h => h.2))
    obtain ⟨p0, p1, p2, p3, p4, p5, p6, p7⟩ := row8 x1
    have x2 : Below base w0 w := hk.world.below (fun k ⟨_, h⟩ => h.elim (fun h => own_base ho k h.2) (fun h => h.2.elim)) hb
    obtain ⟨V4, e4⟩ : ∃ V4, a.eval (.tmp 36) = V4 := ⟨_, rfl⟩
    have f4 : PutO base (xs ++ putB (bytesOf t.name)) (a.eval (.tmp 36)) w (O 4) := f36
    rw [e4] at f4
    exact obE_put #[V4, .int .u64 t.ls.length] rfl rfl rfl rfl (by simp only [List.map_cons, List.map_nil]; rw [e4, e40]; try rfl) (wanted_none rfl) (fun k hv => .inl ⟨4, by simp [rt_C], f4.2 k hv⟩) rfl (refPut_grew base V4 (xs ++ putB (bytesOf t.name)) _ w f4.1 (Nat.le_trans hb hk.world.size) (by omega) (by omega) (by rw [List.length_append]; simp only [List.length_append] at hsz ⊢; omega))
  · refine ⟨⟨fun τ => stableE_own _ _ _ _ _, leans_not⟩, ?_⟩
    intro a w O hk
    have f41 := hk.fact 9 _ 41 rfl rfl rfl rfl
    have g41 := hk.owns 9 rfl rfl
    exact toE (ob_assignO (O 9) rfl rfl (wanted_none rfl) f41 (fun k h => ⟨9, by simp [rt_C], h⟩))
set_option maxRecDepth 100000 in
set_option maxHeartbeats 8000000 in
theorem rt_region {Q : Exit → Act → World → Prop} {id : Nat} (w0 : World) (g : Nat) (p : Pl) (t : Tm) (base : Nat) (V : Value) (xs : List Int) {s1 s2 s4 s5 s6 s7 s8 s9 s10 s11 s12 s13 s14 s15 s16 s17 s18 s19 s20 s21 s22 s23 s24 s25 s26 s27 s28 s29 s30 s31 s32 s33 s34 s35 s36 s37 s38 s39 s40 s41 s42 s43 s44 s45 s46 s47 s48 s49 s50 s51 s52 s53 s54 s55 s56 s57 s58 s59 s60 s61 s62 s63 s64 : Value} (hx : w0.heap[g]? = some (tmO p t)) (ho : OwnB w0 base V xs) (hb : base ≤ w0.heap.size) (hne : ∀ k, V.ownBlock = some k → k ≠ g) (hls : LvIn w0 base p.B p.d (.mk 0 0 t.ls)) (hok : lvsOk t.ls) (hnm : t.name.size ≤ 32) (hsz : xs.length + (putB (bytesOf t.name)).length + (putN t.ls.length ++ lvsB t.ls).length ≤ 140737488350000) (hl6 : t.ls.length ≤ 6)
    (hend : ∀ (w' : World) (u0 : Value) (u35 : Value) (u36 : Value) (u41 : Value) (O10 : Nat → Prop) (O3 : Nat → Prop), Chg (fun k => (fun k => V.ownBlock = some k) k ∨ (fun _ => False) k) w0 w' → (PutO base (xs ++ putB (bytesOf t.name) ++ putN t.ls.length) u0 w' O10) → (∀ k, O10 k → k < w'.heap.size ∧ ¬ Fix w0 (est2 4 0 (fun k => V.ownBlock = some k) (fun _ => False)) k) → (BytesO (t.name).size (bytesOf (t.name)) u35 w' O3) → (∀ k, O3 k → k < w'.heap.size ∧ ¬ Fix w0 (est2 4 0 (fun k => V.ownBlock = some k) (fun _ => False)) k) → Q .normal { tmps := (u0 :: s1 :: s2 :: (.pointer (some ⟨g, 0, none⟩) : Value) :: s4 :: s5 :: s6 :: s7 :: s8 :: s9 :: s10 :: s11 :: s12 :: s13 :: s14 :: s15 :: s16 :: s17 :: s18 :: s19 :: s20 :: s21 :: s22 :: s23 :: s24 :: s25 :: s26 :: s27 :: s28 :: s29 :: s30 :: s31 :: V :: (.pointer (some ⟨g, 2, none⟩) : Value) :: (.string t.name : Value) :: u35 :: u36 :: (.pointer (some ⟨g, 6, none⟩) : Value) :: (.slice p.B t.ls.length p.d : Value) :: (.int .i64 t.ls.length : Value) :: (.int .u64 t.ls.length : Value) :: u41 :: s42 :: s43 :: s44 :: s45 :: s46 :: s47 :: s48 :: s49 :: s50 :: s51 :: s52 :: s53 :: s54 :: s55 :: s56 :: s57 :: s58 :: s59 :: s60 :: s61 :: s62 :: s63 :: s64 :: ([] : List Value)).toArray, defers := [] } w') :
    (Code.region id rt_ops.toArray true).wp Try.prog Q { tmps := (V :: s1 :: s2 :: (.pointer (some ⟨g, 0, none⟩) : Value) :: s4 :: s5 :: s6 :: s7 :: s8 :: s9 :: s10 :: s11 :: s12 :: s13 :: s14 :: s15 :: s16 :: s17 :: s18 :: s19 :: s20 :: s21 :: s22 :: s23 :: s24 :: s25 :: s26 :: s27 :: s28 :: s29 :: s30 :: s31 :: s32 :: s33 :: s34 :: s35 :: s36 :: s37 :: s38 :: s39 :: s40 :: s41 :: s42 :: s43 :: s44 :: s45 :: s46 :: s47 :: s48 :: s49 :: s50 :: s51 :: s52 :: s53 :: s54 :: s55 :: s56 :: s57 :: s58 :: s59 :: s60 :: s61 :: s62 :: s63 :: s64 :: ([] : List Value)).toArray, defers := [] } w0 := by
  refine wp_region_est (by kernel_rfl) (est2 4 0 (fun k => V.ownBlock = some k) (fun _ => False)) rt_C (rt_F w0 g p t base V xs) (est2_dis (fun _ _ h => h)) (est2_range (fun k hk => own_size ho hk) (fun _ h => h.elim)) (by rfl) (by kernel_rfl) (rt_obs w0.drew g p t base V xs hx ho hb hne (LvS.same hls (fun _ _ _ => rfl)) hok hnm hsz hl6 _ _ rfl rfl) ?_
  intro a w' O hd hs hb hf hf2 ha hsame
  have hx : ∀ (qi : Nat) (qv : Value), nwB rt_ops.toArray qi = true → (V :: s1 :: s2 :: (.pointer (some ⟨g, 0, none⟩) : Value) :: s4 :: s5 :: s6 :: s7 :: s8 :: s9 :: s10 :: s11 :: s12 :: s13 :: s14 :: s15 :: s16 :: s17 :: s18 :: s19 :: s20 :: s21 :: s22 :: s23 :: s24 :: s25 :: s26 :: s27 :: s28 :: s29 :: s30 :: s31 :: s32 :: s33 :: s34 :: s35 :: s36 :: s37 :: s38 :: s39 :: s40 :: s41 :: s42 :: s43 :: s44 :: s45 :: s46 :: s47 :: s48 :: s49 :: s50 :: s51 :: s52 :: s53 :: s54 :: s55 :: s56 :: s57 :: s58 :: s59 :: s60 :: s61 :: s62 :: s63 :: s64 :: ([] : List Value)).toArray.getD qi undef = qv → a.tmps.getD qi undef = qv := fun qi qv h e => (hsame qi (nwB.spec h)).trans e
  have x1 := hx 1 s1 (by kernel_rfl) rfl
  have x2 := hx 2 s2 (by kernel_rfl) rfl
  have x3 := hx 3 (.pointer (some ⟨g, 0, none⟩)) (by kernel_rfl) rfl
  have x4 := hx 4 s4 (by kernel_rfl) rfl
  have x5 := hx 5 s5 (by kernel_rfl) rfl
  have x6 := hx 6 s6 (by kernel_rfl) rfl
  have x7 := hx 7 s7 (by kernel_rfl) rfl
  have x8 := hx 8 s8 (by kernel_rfl) rfl
  have x9 := hx 9 s9 (by kernel_rfl) rfl
  have x10 := hx 10 s10 (by kernel_rfl) rfl
  have x11 := hx 11 s11 (by kernel_rfl) rfl
  have x12 := hx 12 s12 (by kernel_rfl) rfl
  have x13 := hx 13 s13 (by kernel_rfl) rfl
  have x14 := hx 14 s14 (by kernel_rfl) rfl
  have x15 := hx 15 s15 (by kernel_rfl) rfl
  have x16 := hx 16 s16 (by kernel_rfl) rfl
  have x17 := hx 17 s17 (by kernel_rfl) rfl
  have x18 := hx 18 s18 (by kernel_rfl) rfl
  have x19 := hx 19 s19 (by kernel_rfl) rfl
  have x20 := hx 20 s20 (by kernel_rfl) rfl
  have x21 := hx 21 s21 (by kernel_rfl) rfl
  have x22 := hx 22 s22 (by kernel_rfl) rfl
  have x23 := hx 23 s23 (by kernel_rfl) rfl
  have x24 := hx 24 s24 (by kernel_rfl) rfl
  have x25 := hx 25 s25 (by kernel_rfl) rfl
  have x26 := hx 26 s26 (by kernel_rfl) rfl
  have x27 := hx 27 s27 (by kernel_rfl) rfl
  have x28 := hx 28 s28 (by kernel_rfl) rfl
  have x29 := hx 29 s29 (by kernel_rfl) rfl
  have x30 := hx 30 s30 (by kernel_rfl) rfl
  have x31 := hx 31 s31 (by kernel_rfl) rfl
  have x32 : a.tmps.getD 32 undef = V := (hf 0 _ 32 rfl rfl (by decide)).1
  have x33 : a.tmps.getD 33 undef = .pointer (some ⟨g, 2, none⟩) := (hf 1 _ 33 rfl rfl (by decide)).1
  have x34 : a.tmps.getD 34 undef = .string t.name := (hf 2 _ 34 rfl rfl (by decide)).1
  have x37 : a.tmps.getD 37 undef = .pointer (some ⟨g, 6, none⟩) := (hf 5 _ 37 rfl rfl (by decide)).1
  have x38 : a.tmps.getD 38 undef = .slice p.B t.ls.length p.d := (hf 6 _ 38 rfl rfl (by decide)).1
  have x39 : a.tmps.getD 39 undef = .int .i64 t.ls.length := (hf 7 _ 39 rfl rfl (by decide)).1
  have x40 : a.tmps.getD 40 undef = .int .u64 t.ls.length := (hf 8 _ 40 rfl rfl (by decide)).1
  have x42 := hx 42 s42 (by kernel_rfl) rfl
  have x43 := hx 43 s43 (by kernel_rfl) rfl
  have x44 := hx 44 s44 (by kernel_rfl) rfl
  have x45 := hx 45 s45 (by kernel_rfl) rfl
  have x46 := hx 46 s46 (by kernel_rfl) rfl
  have x47 := hx 47 s47 (by kernel_rfl) rfl
  have x48 := hx 48 s48 (by kernel_rfl) rfl
  have x49 := hx 49 s49 (by kernel_rfl) rfl
  have x50 := hx 50 s50 (by kernel_rfl) rfl
  have x51 := hx 51 s51 (by kernel_rfl) rfl
  have x52 := hx 52 s52 (by kernel_rfl) rfl
  have x53 := hx 53 s53 (by kernel_rfl) rfl
  have x54 := hx 54 s54 (by kernel_rfl) rfl
  have x55 := hx 55 s55 (by kernel_rfl) rfl
  have x56 := hx 56 s56 (by kernel_rfl) rfl
  have x57 := hx 57 s57 (by kernel_rfl) rfl
  have x58 := hx 58 s58 (by kernel_rfl) rfl
  have x59 := hx 59 s59 (by kernel_rfl) rfl
  have x60 := hx 60 s60 (by kernel_rfl) rfl
  have x61 := hx 61 s61 (by kernel_rfl) rfl
  have x62 := hx 62 s62 (by kernel_rfl) rfl
  have x63 := hx 63 s63 (by kernel_rfl) rfl
  have x64 := hx 64 s64 (by kernel_rfl) rfl
  have hl : a.tmps = ((a.tmps.getD 0 undef : Value) :: s1 :: s2 :: (.pointer (some ⟨g, 0, none⟩) : Value) :: s4 :: s5 :: s6 :: s7 :: s8 :: s9 :: s10 :: s11 :: s12 :: s13 :: s14 :: s15 :: s16 :: s17 :: s18 :: s19 :: s20 :: s21 :: s22 :: s23 :: s24 :: s25 :: s26 :: s27 :: s28 :: s29 :: s30 :: s31 :: V :: (.pointer (some ⟨g, 2, none⟩) : Value) :: (.string t.name : Value) :: (a.tmps.getD 35 undef : Value) :: (a.tmps.getD 36 undef : Value) :: (.pointer (some ⟨g, 6, none⟩) : Value) :: (.slice p.B t.ls.length p.d : Value) :: (.int .i64 t.ls.length : Value) :: (.int .u64 t.ls.length : Value) :: (a.tmps.getD 41 undef : Value) :: s42 :: s43 :: s44 :: s45 :: s46 :: s47 :: s48 :: s49 :: s50 :: s51 :: s52 :: s53 :: s54 :: s55 :: s56 :: s57 :: s58 :: s59 :: s60 :: s61 :: s62 :: s63 :: s64 :: ([] : List Value)).toArray := by
    have h := lit a.tmps 65 hs
    have e : ((List.range 65).map (fun i => a.tmps.getD i undef)).toArray = ((a.tmps.getD 0 undef : Value) :: (a.tmps.getD 1 undef : Value) :: (a.tmps.getD 2 undef : Value) :: (a.tmps.getD 3 undef : Value) :: (a.tmps.getD 4 undef : Value) :: (a.tmps.getD 5 undef : Value) :: (a.tmps.getD 6 undef : Value) :: (a.tmps.getD 7 undef : Value) :: (a.tmps.getD 8 undef : Value) :: (a.tmps.getD 9 undef : Value) :: (a.tmps.getD 10 undef : Value) :: (a.tmps.getD 11 undef : Value) :: (a.tmps.getD 12 undef : Value) :: (a.tmps.getD 13 undef : Value) :: (a.tmps.getD 14 undef : Value) :: (a.tmps.getD 15 undef : Value) :: (a.tmps.getD 16 undef : Value) :: (a.tmps.getD 17 undef : Value) :: (a.tmps.getD 18 undef : Value) :: (a.tmps.getD 19 undef : Value) :: (a.tmps.getD 20 undef : Value) :: (a.tmps.getD 21 undef : Value) :: (a.tmps.getD 22 undef : Value) :: (a.tmps.getD 23 undef : Value) :: (a.tmps.getD 24 undef : Value) :: (a.tmps.getD 25 undef : Value) :: (a.tmps.getD 26 undef : Value) :: (a.tmps.getD 27 undef : Value) :: (a.tmps.getD 28 undef : Value) :: (a.tmps.getD 29 undef : Value) :: (a.tmps.getD 30 undef : Value) :: (a.tmps.getD 31 undef : Value) :: (a.tmps.getD 32 undef : Value) :: (a.tmps.getD 33 undef : Value) :: (a.tmps.getD 34 undef : Value) :: (a.tmps.getD 35 undef : Value) :: (a.tmps.getD 36 undef : Value) :: (a.tmps.getD 37 undef : Value) :: (a.tmps.getD 38 undef : Value) :: (a.tmps.getD 39 undef : Value) :: (a.tmps.getD 40 undef : Value) :: (a.tmps.getD 41 undef : Value) :: (a.tmps.getD 42 undef : Value) :: (a.tmps.getD 43 undef : Value) :: (a.tmps.getD 44 undef : Value) :: (a.tmps.getD 45 undef : Value) :: (a.tmps.getD 46 undef : Value) :: (a.tmps.getD 47 undef : Value) :: (a.tmps.getD 48 undef : Value) :: (a.tmps.getD 49 undef : Value) :: (a.tmps.getD 50 undef : Value) :: (a.tmps.getD 51 undef : Value) :: (a.tmps.getD 52 undef : Value) :: (a.tmps.getD 53 undef : Value) :: (a.tmps.getD 54 undef : Value) :: (a.tmps.getD 55 undef : Value) :: (a.tmps.getD 56 undef : Value) :: (a.tmps.getD 57 undef : Value) :: (a.tmps.getD 58 undef : Value) :: (a.tmps.getD 59 undef : Value) :: (a.tmps.getD 60 undef : Value) :: (a.tmps.getD 61 undef : Value) :: (a.tmps.getD 62 undef : Value) :: (a.tmps.getD 63 undef : Value) :: (a.tmps.getD 64 undef : Value) :: ([] : List Value)).toArray := rfl
    rw [e, x1, x2, x3, x4, x5, x6, x7, x8, x9, x10, x11, x12, x13, x14, x15, x16, x17, x18, x19, x20, x21, x22, x23, x24, x25, x26, x27, x28, x29, x30, x31, x32, x33, x34, x37, x38, x39, x40, x42, x43, x44, x45, x46, x47, x48, x49, x50, x51, x52, x53, x54, x55, x56, x57, x58, x59, x60, x61, x62, x63, x64] at h
    exact h
  obtain ⟨tmps, defers⟩ := a
  obtain rfl : defers = [] := hd
  have hl' : tmps = _ := hl
  rw [hl']
  have hb' := est2_chg hb
  exact hend w' _ _ _ _ (O 10) (O 3) ⟨hb'.os, hb'.tape, hb'.output, hb'.size, hb'.block⟩ (hf 10 _ 0 rfl rfl (by decide)).1 (hf 10 _ 0 rfl rfl (by decide)).2 (hf 3 _ 35 rfl rfl (by decide)).1 (hf 3 _ 35 rfl rfl (by decide)).2

end Go.Proofs.Ytcgkeolgflphiaa

/-! PutTm -/
namespace Go.Proofs.Ytcgkeolgflphiaa
open Go.RowKit Go.Proofs.YtcgkeolgflphiaaW.PrintWords Go.RegionInvYtcgkeolgflphiaa Go.Proofs.YtcgkeolgflphiaaW.PrintMore Go.RegionEYtcgkeolgflphiaa

theorem tmB_mk (k n : Int) (nm : ByteArray) (lv : Lv) (ls : List Lv) (ks : List Tm) : tmB (.mk k n nm lv ls ks) = [k] ++ ownBy k n nm lv ls ++ tmsB ks := by rw [tmB]
theorem tmsB_nil : tmsB [] = [] := by rw [tmsB]
theorem tmsOk_at : ∀ {ls : List Tm}, tmsOk ls → ∀ (i : Nat) (x : Tm), ls[i]? = some x → tmOk x
  | [], _, i, x, h => by simp at h
  | y :: r, h, i, x, hx => by
    rw [tmsOk] at h
    cases i with
    | zero => simp at hx; subst hx; exact h.1
    | succ j => exact tmsOk_at h.2 j x (by simpa using hx)
theorem kidT_small {k n : Int} {nm : ByteArray} {lv : Lv} {ls : List Lv} {ks : List Tm} {i : Nat} {x : Tm} (h : ks[i]? = some x) : SizeOf.sizeOf x < SizeOf.sizeOf (Tm.mk k n nm lv ls ks) := by
  have := List.sizeOf_lt_of_mem (List.mem_of_getElem? h)
  simp only [Tm.mk.sizeOf_spec]
  omega
theorem drop_kidT {ks : List Tm} {i : Nat} {x : Tm} (h : ks[i]? = some x) : ks.drop i = x :: ks.drop (i + 1) := by
  have hlt : i < ks.length := by
    rcases Nat.lt_or_ge i ks.length with h' | h'
    · exact h'
    · rw [List.getElem?_eq_none h'] at h; cases h
  rw [List.drop_eq_getElem_cons hlt]
  rw [List.getElem?_eq_getElem hlt] at h
  rw [Option.some.inj h]
theorem grew_ne {v v1 : Value} {W w1 : World} {g : Nat} (h : Grew v v1 W w1) (hn : ∀ k, v.ownBlock = some k → k ≠ g) (hg : g < W.heap.size) : ∀ k, v1.ownBlock = some k → k ≠ g := fun k hk => (h.2 k hk).elim (hn k) (fun h => by omega)
theorem PutPost.of_lv {f : FuncId} {v a b : Value} {w : World} {Q : Ending → World → Prop} (h : a = b) (hc : Calls Try.prog f #[v, a] w Q) : Calls Try.prog f #[v, b] w Q := h ▸ hc
set_option maxRecDepth 100000 in
set_option maxHeartbeats 16000000 in
theorem putTerm_calls (N : Nat) : ∀ (t : Tm), SizeOf.sizeOf t < N → tmOk t → ∀ (p : Pl) (base : Nat) (v : Value) (xs : List Int) (w : World), TmIn w base p t → OwnB w base v xs → base ≤ w.heap.size → xs.length + (tmB t).length ≤ 140737488350000 →
    Calls Try.prog 56 #[v, tmV p t] w (PutPost base v xs (tmB t) w) := by
  induction N with
  | zero => intro t h; omega
  | succ N ih =>
    rintro ⟨tk, tn, nm, lv, ls, ks⟩ hN hok p base v xs w hin ho hb hsz
    have IH := Aside0.mk ih
    have HNN := Aside0.mk hN
    rw [tmOk] at hok
    obtain ⟨⟨⟨hk1, hk7⟩, hn, hlvok, hcok, hks0, hks3⟩, hoks⟩ := hok
    have HN1 := Aside0.mk hn
    have HLO := Aside0.mk hlvok
    have HCO := Aside0.mk hcok
    have HKS0 := Aside0.mk hks0
    have HOK := Aside0.mk hoks
    obtain ⟨W, hW⟩ : ∃ W, W = w.alloc (tmO p (.mk tk tn nm lv ls ks)) := ⟨_, rfl⟩
    have hbw : Below w.heap.size w W := by rw [hW]; exact below_alloc (Below.refl _ _) _
    have HOW := Aside0.mk (show OwnB W base v xs by rw [hW]; exact World.ownsRow.alloc ho _)
    have HX := Aside0.mk (show W.heap[w.heap.size]? = some (tmO p (.mk tk tn nm lv ls ks)) by rw [hW]; exact blk_new _ _)
    have HIN := Aside0.mk (TmIn.stay hin (hbw.mono hb))
    have HNE := Aside0.mk (show ∀ k, v.ownBlock = some k → k ≠ w.heap.size from fun k hk => Nat.ne_of_lt (own_size ho hk))
    have HFIN := Aside0.mk (show ∀ (v' : Value) (w' : World) (zs : List Int), zs = xs ++ tmB (.mk tk tn nm lv ls ks) → OwnB w' base v' zs → Grew v v' W w' → PutPost base v xs (tmB (.mk tk tn nm lv ls ks)) w (.returned v') w' from fun v' w' zs hz h1 h2 => ⟨v', rfl, by rw [← hz]; exact h1, by rw [hW] at h2; exact grew_alloc h2⟩)
    have hbW : base ≤ W.heap.size := Nat.le_trans hb hbw.size
    have hz := tmB_mk tk tn nm lv ls ks
    have hsum : (tmB (.mk tk tn nm lv ls ks)).length = 1 + (ownBy tk tn nm lv ls).length + (tmsB ks).length := by rw [hz]; simp only [List.length_append, List.length_cons, List.length_nil]
    have HZ := Aside0.mk hz
    have HSUM := Aside0.mk hsum
    have HSZ := Aside0.mk hsz
    have hsz0 : xs.length + 1 ≤ 140737488350000 := by omega
    have hL9 : ks.length ≤ 9223372036854775807 := by omega
    clear ih hoks hin ho hbw hz hsum hsz hn hlvok hcok hks0 hks3 hN
    obtain ⟨pA, pc, pB, pd, pK, pe⟩ := p
    obtain ⟨c0, c1, c2, c3, c4, c5, c6, c7⟩ := row8 HX.out
    dsimp only [Tm.kind, Tm.num, Tm.name, Tm.lv, Tm.ls, Tm.kids] at c0 c1 c2 c3 c4 c5 c6 c7
    clear c1 c2 c3 c4 c5 c6 c7
    obtain ⟨m, hm⟩ : ∃ m, ks.length = m := ⟨_, rfl⟩
    have HM := Aside0.mk hm
    rw [hm] at hL9
    clear hm
    unfold tmV
    dsimp only [Tm.kind, Tm.num, Tm.name, Tm.lv, Tm.ls, Tm.kids]
    have hW' : W = w.alloc (.cells #[.int .i64 tk, .int .i64 tn, .string nm, .int .i64 lv.kind, .int .i64 lv.num, .slice pA lv.kids.length pc, .slice pB ls.length pd, .slice pK ks.length pe] 27 (0, 0)) := hW
    go_enter Try.func56, Try.ntmps56
    go_upto_region 1 with (fail)
    rw [← hW']
    clear hW hW'
    obtain ⟨lk, hlk⟩ : ∃ x, lv.kind = x := ⟨_, rfl⟩
    obtain ⟨ln, hln⟩ : ∃ x, lv.num = x := ⟨_, rfl⟩
    obtain ⟨lm, hlm⟩ : ∃ x, lv.kids.length = x := ⟨_, rfl⟩
    obtain ⟨M, hM⟩ : ∃ x, ls.length = x := ⟨_, rfl⟩
    have HLV := Aside0.mk (show lvV pA pc lv = .agg #[.int .i64 lk, .int .i64 ln, .slice pA lm pc] by unfold lvV; rw [hlk, hln, hlm])
    have HTO := Aside0.mk (show tmO ⟨pA, pc, pB, pd, pK, pe⟩ (.mk tk tn nm lv ls ks) = .cells #[.int .i64 tk, .int .i64 tn, .string nm, .int .i64 lk, .int .i64 ln, .slice pA lm pc, .slice pB M pd, .slice pK m pe] 27 (0, 0) by rw [← hlk, ← hln, ← hlm, ← hM, ← HM.out]; rfl)
    rw [hlk, hln, hlm, hM, HM.out]
    have HLM := Aside0.mk hM
    clear hlk hln hlm hM
    by_cases k1 : tk = 1
    · have e1 : (tk == 1) = true := by simp [k1]
      have hn := HN1.out k1
      obtain ⟨n0, n1⟩ := hn
      have HE := Aside0.mk (show tmB (.mk tk tn nm lv ls ks) = [tk] ++ putN tn by rw [HZ.out, HKS0.out (.inl k1)]; unfold ownBy; rw [if_pos k1, tmsB_nil, List.append_nil])
      have hsz1 : xs.length + 1 + (putN tn).length ≤ 140737488350000 := by have := HSZ.out; rw [HE.out] at this; simp only [List.length_append, List.length_cons, List.length_nil] at this; omega
      clear k1
      go_wp2_with (first
        | (at_builtin; go_must (refine print_append_num (w0 := W) base rfl (.tmp 7) (.tmp 11) 31 5 .u8 1 rfl Try.underlying31 infoU8 (by decide) v xs tk rfl rfl HOW.out (Below.refl _ _) hbW (by omega) ?_; intro v1 w1 ho _ hg hat; have HG1 := Aside0.mk (Grew.of_append hg hat); have HO1 := Aside0.mk ho; have HX1 := Aside0.mk (grew_hold HG1.out HOW.out HX.out HNE.out); have hx1 := HX1.out; rw [HTO.out] at hx1; have c0 : w1.cell? ⟨w.heap.size, 0, none⟩ = some (.int .i64 tk) := (by rw [cell_of_row _ _ _ _ _ _ hx1]; rfl); have c1 : w1.cell? ⟨w.heap.size, 1, none⟩ = some (.int .i64 tn) := (by rw [cell_of_row _ _ _ _ _ _ hx1]; rfl); clear ho hg hat hx1))
        | (go_at_call 57; go_must (refine (put_grew base v1 (xs ++ [tk]) tn w1 HO1.out (Nat.le_trans hbW HG1.out.1.size) n0 (by omega) (by simp; omega)).mono ?_; rintro e w2 ⟨v2, rfl, ho2, hg2⟩; have HG2 := Aside0.mk (HG1.out.trans hg2); have HO2 := Aside0.mk ho2; clear ho2 hg2)))
      go_ret
      exact HFIN.out _ _ _ (by rw [HE.out, List.append_assoc]) HO2.out HG2.out
    · by_cases k2 : tk = 2
      · have e1 : (tk == 1) = false := by simp [k2]
        have e2 : (tk == 2) = true := by simp [k2]
        have HLVO := Aside0.mk (HLO.out k2)
        have HE := Aside0.mk (show tmB (.mk tk tn nm lv ls ks) = [tk] ++ lvB lv by rw [HZ.out, HKS0.out (.inr (.inl k2))]; unfold ownBy; rw [if_neg k1, if_pos k2, tmsB_nil, List.append_nil])
        have HSZ1 := Aside0.mk (show (xs ++ [tk]).length + (lvB lv).length ≤ 140737488350000 by have := HSZ.out; rw [HE.out] at this; simp only [List.length_append, List.length_cons, List.length_nil] at this ⊢; omega)
        clear k1 k2
        go_wp2_with (first
          | (at_builtin; go_must (refine print_append_num (w0 := W) base rfl (.tmp 7) (.tmp 11) 31 5 .u8 1 rfl Try.underlying31 infoU8 (by decide) v xs tk rfl rfl HOW.out (Below.refl _ _) hbW (by omega) ?_; intro v1 w1 ho _ hg hat; have HG1 := Aside0.mk (Grew.of_append hg hat); have HO1 := Aside0.mk ho; have HX1 := Aside0.mk (grew_hold HG1.out HOW.out HX.out HNE.out); have hx1 := HX1.out; rw [HTO.out] at hx1; have c0 : w1.cell? ⟨w.heap.size, 0, none⟩ = some (.int .i64 tk) := (by rw [cell_of_row _ _ _ _ _ _ hx1]; rfl); have c3 : w1.cell? ⟨w.heap.size, 3, none⟩ = some (.int .i64 lk) := (by rw [cell_of_row _ _ _ _ _ _ hx1]; rfl); have c4 : w1.cell? ⟨w.heap.size, 4, none⟩ = some (.int .i64 ln) := (by rw [cell_of_row _ _ _ _ _ _ hx1]; rfl); have c5 : w1.cell? ⟨w.heap.size, 5, none⟩ = some (.slice pA lm pc) := (by rw [cell_of_row _ _ _ _ _ _ hx1]; rfl); clear ho hg hat hx1))
          | (go_at_call 80; go_must (refine (PutPost.of_lv HLV.out (putLevel_calls _ lv (Nat.lt_succ_self _) HLVO.out pA pc base v1 (xs ++ [tk]) w1 (TmIn.stay HIN.out (grew_still HG1.out HOW.out hbW)).lv HO1.out (Nat.le_trans hbW HG1.out.1.size) HSZ1.out)).mono ?_; rintro e w2 ⟨v2, rfl, ho2, hg2⟩; have HG2 := Aside0.mk (HG1.out.trans hg2); have HO2 := Aside0.mk ho2; clear ho2 hg2)))
        go_ret
        exact HFIN.out _ _ _ (by rw [HE.out, List.append_assoc]) HO2.out HG2.out
      · by_cases k7 : tk = 7
        · have e1 : (tk == 1) = false := by simp [k7]
          have e2 : (tk == 2) = false := by simp [k7]
          have e7 : (tk == 7) = true := by simp [k7]
          have hc := HCO.out k7
          have HNM := Aside0.mk hc.1
          have HLSO := Aside0.mk hc.2.1
          have HL6 := Aside0.mk hc.2.2
          have HE := Aside0.mk (show tmB (.mk tk tn nm lv ls ks) = [tk] ++ (putB (bytesOf nm) ++ (putN ls.length ++ lvsB ls)) by rw [HZ.out, HKS0.out (.inr (.inr k7))]; unfold ownBy; rw [if_neg k1, if_neg k2, if_pos k7, tmsB_nil, List.append_nil])
          have HSZ1 := Aside0.mk (show (xs ++ [tk]).length + (putB (bytesOf nm)).length + (putN ls.length ++ lvsB ls).length ≤ 140737488350000 by have := HSZ.out; rw [HE.out] at this; simp only [List.length_append, List.length_cons, List.length_nil] at this ⊢; omega)
          clear k1 k2 k7 hc
          go_upto_region 8 with ((at_builtin; go_must (refine print_append_num (w0 := W) base rfl (.tmp 7) (.tmp 11) 31 5 .u8 1 rfl Try.underlying31 infoU8 (by decide) v xs tk rfl rfl HOW.out (Below.refl _ _) hbW (by omega) ?_; intro v1 w1 ho _ hg hat; have HG1 := Aside0.mk (Grew.of_append hg hat); have HO1 := Aside0.mk ho; have HX1 := Aside0.mk (grew_hold HG1.out HOW.out HX.out HNE.out); have hx1 := HX1.out; rw [HTO.out] at hx1; have c0 : w1.cell? ⟨w.heap.size, 0, none⟩ = some (.int .i64 tk) := (by rw [cell_of_row _ _ _ _ _ _ hx1]; rfl); clear ho hg hat hx1)))
          refine pt_region w1 w.heap.size ⟨pA, pc, pB, pd, pK, pe⟩ (.mk tk tn nm lv ls ks) base v1 (xs ++ [tk]) HX1.out HO1.out (Nat.le_trans hbW HG1.out.1.size) (grew_ne HG1.out HNE.out (blk_lt HX.out)) (TmIn.stay HIN.out (grew_still HG1.out HOW.out hbW)).ls HLSO.out HNM.out HSZ1.out ?_
          intro w2 u4 u33 u34 u37 O8 O3 hch hv hO hv3 hO3
          have hl := put_left hch hv hO
          have HO2 := Aside0.mk hl.1
          have HG2 := Aside0.mk (HG1.out.trans hl.2)
          clear hch hv hO hv3 hO3 hl
          go_wp2
          go_ret
          exact HFIN.out _ _ _ (by rw [HE.out]; simp only [List.append_assoc]; rfl) HO2.out HG2.out
        · have e1 : (tk == 1) = false := by simp [k1]
          have e2 : (tk == 2) = false := by simp [k2]
          have e7 : (tk == 7) = false := by simp [k7]
          have HE := Aside0.mk (show tmB (.mk tk tn nm lv ls ks) = [tk] ++ tmsB ks by rw [HZ.out]; unfold ownBy; rw [if_neg k1, if_neg k2, if_neg k7, List.append_nil])
          clear k1 k2 k7
          go_wp2_with ((at_builtin; go_must (refine print_append_num (w0 := W) base rfl (.tmp 7) (.tmp 11) 31 5 .u8 1 rfl Try.underlying31 infoU8 (by decide) v xs tk rfl rfl HOW.out (Below.refl _ _) hbW (by omega) ?_; intro v1 w1 ho _ hg hat; have HG1 := Aside0.mk (Grew.of_append hg hat); have HO1 := Aside0.mk ho; have HX1 := Aside0.mk (grew_hold HG1.out HOW.out HX.out HNE.out); have hx1 := HX1.out; rw [HTO.out] at hx1; have c0 : w1.cell? ⟨w.heap.size, 0, none⟩ = some (.int .i64 tk) := (by rw [cell_of_row _ _ _ _ _ _ hx1]; rfl); have c7 : w1.cell? ⟨w.heap.size, 7, none⟩ = some (.slice pK m pe) := (by rw [cell_of_row _ _ _ _ _ _ hx1]; rfl); clear ho hg hat hx1)))
          clear c0 c7
          go_loopw [0, 41] (fun u i wr => ∃ (k : Nat) (ys : List Int), i = .int .i64 k ∧ k ≤ m ∧ Aside0 (ys ++ tmsB (ks.drop k) = xs ++ tmB (.mk tk tn nm lv ls ks)) ∧ Aside0 (OwnB wr base u ys) ∧ Aside0 (Grew v u W wr)) (fun _ i _ => m - (intOf i).toNat)
          case atStart => exact ⟨0, _, rfl, Nat.zero_le _, ⟨by rw [List.drop_zero, HE.out]; simp only [List.append_assoc]⟩, HO1, HG1⟩
          case round =>
            clear HO1 HG1 HE
            obtain ⟨k, ys, rfl, hk, HE, HOR, HGR⟩ := hrel
            by_cases hlt : k < m
            · have hlt2 : k < ks.length := by rw [HM.out]; exact hlt
              obtain ⟨x, hx⟩ : ∃ x, ks[k]? = some x := ⟨_, List.getElem?_eq_getElem hlt2⟩
              obtain ⟨qq, hq⟩ := (TmIn.stay HIN.out (grew_still HGR.out HOW.out hbW)).kid
              obtain ⟨⟨bk, o, hKa, hSb, hcells⟩, hxin⟩ := hq k x hx
              dsimp only at hKa
              subst hKa
              have d0 := hcells 0 _ rfl
              have d1 := hcells 1 _ rfl
              have d2 := hcells 2 _ rfl
              have d3 := hcells 3 _ rfl
              have d4 := hcells 4 _ rfl
              have d5 := hcells 5 _ rfl
              have d6 := hcells 6 _ rfl
              have d7 := hcells 7 _ rfl
              rw [Nat.add_zero] at d0
              have HXIN := Aside0.mk hxin
              have HXS := Aside0.mk (kidT_small (k := tk) (n := tn) (nm := nm) (lv := lv) (ls := ls) hx)
              have HXO := Aside0.mk (tmsOk_at HOK.out k x hx)
              have HDK := Aside0.mk (show tmsB (ks.drop k) = tmB x ++ tmsB (ks.drop (k + 1)) by rw [drop_kidT hx, tmsB_cons])
              have hl1 := congrArg List.length HE.out
              rw [HDK.out] at hl1
              simp only [List.length_append] at hl1
              have hbr : base ≤ wr.heap.size := Nat.le_trans hbW HGR.out.1.size
              have HBB := Aside0.mk (show ys.length + (tmB x).length ≤ 140737488350000 by have := HSZ.out; omega)
              have HXV := Aside0.mk (show ∀ w, TmIn w base (qq k) x → OwnB w base u0 ys → base ≤ w.heap.size → Calls Try.prog 56 #[u0, tmV (qq k) x] w (PutPost base u0 ys (tmB x) w) from fun w h1 h2 h3 => IH.out x (by have := HXS.out; have := HNN.out; omega) HXO.out (qq k) base u0 ys w h1 h2 h3 HBB.out)
              clear hcells hxin hx hlt2 hl1 hq
              go_wp2_with (go_at_call 56; go_must (refine (HXV.out _ (by exact TmIn.stay HXIN.out ((Below.refl _ _).alloc hbr _)) (World.ownsRow.alloc HOR.out _) (by simp; omega)).mono ?_; rintro e w3 ⟨v3, rfl, ho3, hg3⟩; have HO3 := Aside0.mk ho3; have HG3 := Aside0.mk (HGR.out.trans (grew_alloc hg3)); clear ho3 hg3))
              go_roundw
              case rel => exact ⟨k + 1, ys ++ tmB x, by go_num, by omega, ⟨by rw [← HE.out, HDK.out, List.append_assoc]⟩, HO3, HG3⟩
              case measure => (simp [intOf]; try omega)
            · obtain rfl : k = m := by omega
              have hlt' : decide ((k : Int) < k) = false := by simp
              have HZ2 := Aside0.mk (show ys = xs ++ tmB (.mk tk tn nm lv ls ks) by rw [← HE.out, List.drop_of_length_le (by rw [HM.out]; exact Nat.le_refl _), tmsB_nil, List.append_nil])
              go_wp2
              go_ret
              exact HFIN.out _ _ _ HZ2.out HOR.out HGR.out
end Go.Proofs.Ytcgkeolgflphiaa

/-! PutTmR -/
namespace Go.Proofs.Ytcgkeolgflphiaa
open Go.RowKit Go.Proofs.YtcgkeolgflphiaaW.PrintWords Go.RegionInvYtcgkeolgflphiaa Go.Proofs.YtcgkeolgflphiaaW.PrintMore Go.RegionEYtcgkeolgflphiaa

set_option maxRecDepth 100000 in
set_option maxHeartbeats 16000000 in
theorem refPutTerm_calls (N : Nat) : ∀ (t : Tm), SizeOf.sizeOf t < N → tmOk t → ∀ (p : Pl) (base : Nat) (v : Value) (xs : List Int) (w : World), TmIn w base p t → OwnB w base v xs → base ≤ w.heap.size → xs.length + (tmB t).length ≤ 140737488350000 →
    Calls Try.prog 31 #[v, tmV p t] w (PutPost base v xs (tmB t) w) := by
  induction N with
  | zero => intro t h; omega
  | succ N ih =>
    rintro ⟨tk, tn, nm, lv, ls, ks⟩ hN hok p base v xs w hin ho hb hsz
    have IH := Aside0.mk ih
    have HNN := Aside0.mk hN
    rw [tmOk] at hok
    obtain ⟨⟨⟨hk1, hk7⟩, hn, hlvok, hcok, hks0, hks3⟩, hoks⟩ := hok
    have HN1 := Aside0.mk hn
    have HLO := Aside0.mk hlvok
    have HCO := Aside0.mk hcok
    have HKS0 := Aside0.mk hks0
    have HOK := Aside0.mk hoks
    obtain ⟨W, hW⟩ : ∃ W, W = w.alloc (tmO p (.mk tk tn nm lv ls ks)) := ⟨_, rfl⟩
    have hbw : Below w.heap.size w W := by rw [hW]; exact below_alloc (Below.refl _ _) _
    have HOW := Aside0.mk (show OwnB W base v xs by rw [hW]; exact World.ownsRow.alloc ho _)
    have HX := Aside0.mk (show W.heap[w.heap.size]? = some (tmO p (.mk tk tn nm lv ls ks)) by rw [hW]; exact blk_new _ _)
    have HIN := Aside0.mk (TmIn.stay hin (hbw.mono hb))
    have HNE := Aside0.mk (show ∀ k, v.ownBlock = some k → k ≠ w.heap.size from fun k hk => Nat.ne_of_lt (own_size ho hk))
    have HFIN := Aside0.mk (show ∀ (v' : Value) (w' : World) (zs : List Int), zs = xs ++ tmB (.mk tk tn nm lv ls ks) → OwnB w' base v' zs → Grew v v' W w' → PutPost base v xs (tmB (.mk tk tn nm lv ls ks)) w (.returned v') w' from fun v' w' zs hz h1 h2 => ⟨v', rfl, by rw [← hz]; exact h1, by rw [hW] at h2; exact grew_alloc h2⟩)
    have hbW : base ≤ W.heap.size := Nat.le_trans hb hbw.size
    have hz := tmB_mk tk tn nm lv ls ks
    have hsum : (tmB (.mk tk tn nm lv ls ks)).length = 1 + (ownBy tk tn nm lv ls).length + (tmsB ks).length := by rw [hz]; simp only [List.length_append, List.length_cons, List.length_nil]
    have HZ := Aside0.mk hz
    have HSUM := Aside0.mk hsum
    have HSZ := Aside0.mk hsz
    have hsz0 : xs.length + 1 ≤ 140737488350000 := by omega
    have hL9 : ks.length ≤ 9223372036854775807 := by omega
    clear ih hoks hin ho hbw hz hsum hsz hn hlvok hcok hks0 hks3 hN
    obtain ⟨pA, pc, pB, pd, pK, pe⟩ := p
    obtain ⟨c0, c1, c2, c3, c4, c5, c6, c7⟩ := row8 HX.out
    dsimp only [Tm.kind, Tm.num, Tm.name, Tm.lv, Tm.ls, Tm.kids] at c0 c1 c2 c3 c4 c5 c6 c7
    clear c1 c2 c3 c4 c5 c6 c7
    obtain ⟨m, hm⟩ : ∃ m, ks.length = m := ⟨_, rfl⟩
    have HM := Aside0.mk hm
    rw [hm] at hL9
    clear hm
    unfold tmV
    dsimp only [Tm.kind, Tm.num, Tm.name, Tm.lv, Tm.ls, Tm.kids]
    have hW' : W = w.alloc (.cells #[.int .i64 tk, .int .i64 tn, .string nm, .int .i64 lv.kind, .int .i64 lv.num, .slice pA lv.kids.length pc, .slice pB ls.length pd, .slice pK ks.length pe] 27 (0, 0)) := hW
    go_enter Try.func31, Try.ntmps31
    go_upto_region 1 with (fail)
    rw [← hW']
    clear hW hW'
    obtain ⟨lk, hlk⟩ : ∃ x, lv.kind = x := ⟨_, rfl⟩
    obtain ⟨ln, hln⟩ : ∃ x, lv.num = x := ⟨_, rfl⟩
    obtain ⟨lm, hlm⟩ : ∃ x, lv.kids.length = x := ⟨_, rfl⟩
    obtain ⟨M, hM⟩ : ∃ x, ls.length = x := ⟨_, rfl⟩
    have HLV := Aside0.mk (show lvV pA pc lv = .agg #[.int .i64 lk, .int .i64 ln, .slice pA lm pc] by unfold lvV; rw [hlk, hln, hlm])
    have HTO := Aside0.mk (show tmO ⟨pA, pc, pB, pd, pK, pe⟩ (.mk tk tn nm lv ls ks) = .cells #[.int .i64 tk, .int .i64 tn, .string nm, .int .i64 lk, .int .i64 ln, .slice pA lm pc, .slice pB M pd, .slice pK m pe] 27 (0, 0) by rw [← hlk, ← hln, ← hlm, ← hM, ← HM.out]; rfl)
    rw [hlk, hln, hlm, hM, HM.out]
    have HLM := Aside0.mk hM
    clear hlk hln hlm hM
    go_upto_block 0 with ((at_builtin; go_must (refine print_append_num (w0 := W) base rfl (.tmp 9) (.tmp 13) 31 5 .u8 1 rfl Try.underlying31 infoU8 (by decide) v xs tk rfl rfl HOW.out (Below.refl _ _) hbW (by omega) ?_; intro v1 w1 ho _ hg hat; have HG1 := Aside0.mk (Grew.of_append hg hat); have HO1 := Aside0.mk ho; have HX1 := Aside0.mk (grew_hold HG1.out HOW.out HX.out HNE.out); have hx1 := HX1.out; rw [HTO.out] at hx1; have c0 : w1.cell? ⟨w.heap.size, 0, none⟩ = some (.int .i64 tk) := (by rw [cell_of_row _ _ _ _ _ _ hx1]; rfl); have c1 : w1.cell? ⟨w.heap.size, 1, none⟩ = some (.int .i64 tn) := (by rw [cell_of_row _ _ _ _ _ _ hx1]; rfl); have c3 : w1.cell? ⟨w.heap.size, 3, none⟩ = some (.int .i64 lk) := (by rw [cell_of_row _ _ _ _ _ _ hx1]; rfl); have c4 : w1.cell? ⟨w.heap.size, 4, none⟩ = some (.int .i64 ln) := (by rw [cell_of_row _ _ _ _ _ _ hx1]; rfl); have c5 : w1.cell? ⟨w.heap.size, 5, none⟩ = some (.slice pA lm pc) := (by rw [cell_of_row _ _ _ _ _ _ hx1]; rfl); clear ho hg hat hx1)))
    have HOB := Aside0.mk (show ownBy tk tn nm lv ls = ownBy tk tn nm lv ls from rfl)
    go_cut [0] (fun u w2 => Aside0 (OwnB w2 base u (xs ++ ([tk] ++ ownBy tk tn nm lv ls))) ∧ Aside0 (Grew v u W w2))
    case first =>
      by_cases k1 : tk = 1
      · have e1 : (tk == 1) = true := by simp [k1]
        have hn := HN1.out k1
        obtain ⟨n0, n1⟩ := hn
        have HEO := Aside0.mk (show ownBy tk tn nm lv ls = putN tn by unfold ownBy; rw [if_pos k1])
        have hsz1 : xs.length + 1 + (putN tn).length ≤ 140737488350000 := by have := HSZ.out; rw [HSUM.out, HEO.out] at this; omega
        clear k1
        go_wp2_with (go_at_call 32; go_must (refine (refPut_grew base v1 (xs ++ [tk]) tn w1 HO1.out (Nat.le_trans hbW HG1.out.1.size) n0 (by omega) (by simp; omega)).mono ?_; rintro e w2 ⟨v2, rfl, ho2, hg2⟩; have HG2 := Aside0.mk (HG1.out.trans hg2); have HO2 := Aside0.mk ho2; clear ho2 hg2))
        go_meet
        case rel => exact ⟨⟨by rw [HEO.out, ← List.append_assoc]; exact HO2.out⟩, HG2⟩
      · by_cases k2 : tk = 2
        · have e1 : (tk == 1) = false := by simp [k2]
          have e2 : (tk == 2) = true := by simp [k2]
          have HLVO := Aside0.mk (HLO.out k2)
          have HEO := Aside0.mk (show ownBy tk tn nm lv ls = lvB lv by unfold ownBy; rw [if_neg k1, if_pos k2])
          have HSZ1 := Aside0.mk (show (xs ++ [tk]).length + (lvB lv).length ≤ 140737488350000 by have := HSZ.out; rw [HSUM.out, HEO.out] at this; simp only [List.length_append, List.length_cons, List.length_nil]; omega)
          clear k1 k2
          go_wp2_with (go_at_call 60; go_must (refine (PutPost.of_lv HLV.out (refPutLevel_calls _ lv (Nat.lt_succ_self _) HLVO.out pA pc base v1 (xs ++ [tk]) w1 (TmIn.stay HIN.out (grew_still HG1.out HOW.out hbW)).lv HO1.out (Nat.le_trans hbW HG1.out.1.size) HSZ1.out)).mono ?_; rintro e w2 ⟨v2, rfl, ho2, hg2⟩; have HG2 := Aside0.mk (HG1.out.trans hg2); have HO2 := Aside0.mk ho2; clear ho2 hg2))
          go_meet
          case rel => exact ⟨⟨by rw [HEO.out, ← List.append_assoc]; exact HO2.out⟩, HG2⟩
        · by_cases k7 : tk = 7
          · have e1 : (tk == 1) = false := by simp [k7]
            have e2 : (tk == 2) = false := by simp [k7]
            have e7 : (tk == 7) = true := by simp [k7]
            have hc := HCO.out k7
            have HNM := Aside0.mk hc.1
            have HLSO := Aside0.mk hc.2.1
            have HL6 := Aside0.mk hc.2.2
            have hM9 : M ≤ 9223372036854775807 := by have := HLM.out; have := HL6.out; omega
            have HEO := Aside0.mk (show ownBy tk tn nm lv ls = putB (bytesOf nm) ++ (putN ls.length ++ lvsB ls) by unfold ownBy; rw [if_neg k1, if_neg k2, if_pos k7])
            have HSZ1 := Aside0.mk (show (xs ++ [tk]).length + (putB (bytesOf nm)).length + (putN ls.length ++ lvsB ls).length ≤ 140737488350000 by have := HSZ.out; rw [HSUM.out, HEO.out] at this; simp only [List.length_append, List.length_cons, List.length_nil] at this ⊢; omega)
            clear k1 k2 k7 hc
            go_upto_region 8 with (fail)
            refine rt_region w1 w.heap.size ⟨pA, pc, pB, pd, pK, pe⟩ (.mk tk tn nm lv ls ks) base v1 (xs ++ [tk]) HX1.out HO1.out (Nat.le_trans hbW HG1.out.1.size) (grew_ne HG1.out HNE.out (blk_lt HX.out)) (TmIn.stay HIN.out (grew_still HG1.out HOW.out hbW)).ls HLSO.out HNM.out HSZ1.out HL6.out ?_
            intro w2 u0 u35 u36 u41 O10 O3 hch hv hO hv3 hO3
            have hl := put_left hch hv hO
            have HO2 := Aside0.mk hl.1
            have HG2 := Aside0.mk (HG1.out.trans hl.2)
            clear hch hv hO hv3 hO3 hl
            have hx2 := grew_hold HG2.out HOW.out HX.out HNE.out
            rw [HTO.out] at hx2
            have c6 : w2.cell? ⟨w.heap.size, 6, none⟩ = some (.slice pB M pd) := (by rw [cell_of_row _ _ _ _ _ _ hx2]; rfl)
            clear hx2
            go_wp2
            clear c6
            go_loopw [0, 45] (fun u i wr => ∃ (k : Nat) (ys : List Int), i = .int .i64 k ∧ k ≤ M ∧ Aside0 (ys ++ lvsB (ls.drop k) = xs ++ ([tk] ++ ownBy tk tn nm lv ls)) ∧ Aside0 (OwnB wr base u ys) ∧ Aside0 (Grew v u W wr)) (fun _ i _ => M - (intOf i).toNat)
            case atStart => exact ⟨0, _, rfl, Nat.zero_le _, ⟨by rw [List.drop_zero, HEO.out]; simp only [List.append_assoc]; rfl⟩, HO2, HG2⟩
            case round =>
              clear HO2 HG2
              obtain ⟨k, ys, rfl, hk, HE, HOR, HGR⟩ := hrel
              by_cases hlt : k < M
              · have hlt2 : k < ls.length := by rw [HLM.out]; exact hlt
                obtain ⟨x, hx⟩ : ∃ x, ls[k]? = some x := ⟨_, List.getElem?_eq_getElem hlt2⟩
                obtain ⟨A', c', hcs, hxin⟩ := (TmIn.stay HIN.out (grew_still HGR.out HOW.out hbW)).ls.kid k x hx
                obtain ⟨ad, hpB, d1, d2, d3⟩ := hcs.facts
                dsimp only at hpB
                subst hpB
                have HXIN := Aside0.mk hxin
                have HXO := Aside0.mk (lvsOk_at HLSO.out k x hx)
                have HDK := Aside0.mk (show lvsB (ls.drop k) = lvB x ++ lvsB (ls.drop (k + 1)) by rw [drop_kid hx, lvsB_cons])
                have hl1 := congrArg List.length HE.out
                rw [HDK.out] at hl1
                simp only [List.length_append, List.length_cons, List.length_nil] at hl1
                have hbr : base ≤ wr.heap.size := Nat.le_trans hbW HGR.out.1.size
                have HBB := Aside0.mk (show ys.length + (lvB x).length ≤ 140737488350000 by have := HSZ.out; have := HSUM.out; omega)
                have HXV := Aside0.mk (show ∀ w, LvIn w base A' c' x → OwnB w base u0 ys → base ≤ w.heap.size → Calls Try.prog 60 #[u0, .agg #[.int .i64 x.kind, .int .i64 x.num, .slice A' x.kids.length c']] w (PutPost base u0 ys (lvB x) w) from fun w h1 h2 h3 => refPutLevel_calls _ x (Nat.lt_succ_self _) HXO.out A' c' base u0 ys w h1 h2 h3 HBB.out)
                clear hcs hxin hx hlt2 hl1
                go_wp2_with (go_at_call 60; go_must (refine (HXV.out _ (by exact LvIn.stay HXIN.out ((Below.refl _ _).alloc hbr _)) (World.ownsRow.alloc HOR.out _) (by simp; omega)).mono ?_; rintro e w3 ⟨v3, rfl, ho3, hg3⟩; have HO3 := Aside0.mk ho3; have HG3 := Aside0.mk (HGR.out.trans (grew_alloc hg3)); clear ho3 hg3))
                go_roundw
                case rel => exact ⟨k + 1, ys ++ lvB x, by go_num, by omega, ⟨by rw [← HE.out, HDK.out, List.append_assoc]⟩, HO3, HG3⟩
                case measure => (simp [intOf]; try omega)
              · obtain rfl : k = M := by omega
                have hlt' : decide ((k : Int) < k) = false := by simp
                have HZ2 := Aside0.mk (show ys = xs ++ ([tk] ++ ownBy tk tn nm lv ls) by rw [← HE.out, List.drop_of_length_le (by rw [HLM.out]; exact Nat.le_refl _), lvsB_nil, List.append_nil])
                go_wp2
                go_meet
                case rel => exact ⟨⟨by rw [← HZ2.out]; exact HOR.out⟩, HGR⟩
          · have e1 : (tk == 1) = false := by simp [k1]
            have e2 : (tk == 2) = false := by simp [k2]
            have e7 : (tk == 7) = false := by simp [k7]
            have HEO := Aside0.mk (show ownBy tk tn nm lv ls = [] by unfold ownBy; rw [if_neg k1, if_neg k2, if_neg k7])
            clear k1 k2 k7
            go_wp2
            go_meet
            case rel => exact ⟨⟨by rw [HEO.out, List.append_nil]; exact HO1.out⟩, HG1⟩
    case rest =>
      obtain ⟨HO2, HG2⟩ := hcut
      have HE := Aside0.mk (show tmB (.mk tk tn nm lv ls ks) = [tk] ++ ownBy tk tn nm lv ls ++ tmsB ks from HZ.out)
      have hx2 := grew_hold HG2.out HOW.out HX.out HNE.out
      rw [HTO.out] at hx2
      have c7 : wc.cell? ⟨w.heap.size, 7, none⟩ = some (.slice pK m pe) := (by rw [cell_of_row _ _ _ _ _ _ hx2]; rfl)
      clear hx2 c0 HX1 HO1 HG1 c1 c3 c4 c5
      go_wp2
      clear c7
      go_loopw [0, 56] (fun u i wr => ∃ (k : Nat) (ys : List Int), i = .int .i64 k ∧ k ≤ m ∧ Aside0 (ys ++ tmsB (ks.drop k) = xs ++ tmB (.mk tk tn nm lv ls ks)) ∧ Aside0 (OwnB wr base u ys) ∧ Aside0 (Grew v u W wr)) (fun _ i _ => m - (intOf i).toNat)
      case atStart => exact ⟨0, _, rfl, Nat.zero_le _, ⟨by rw [List.drop_zero, HE.out]; simp only [List.append_assoc]⟩, HO2, HG2⟩
      case round =>
        clear HO2 HG2 HE
        obtain ⟨k, ys, rfl, hk, HE, HOR, HGR⟩ := hrel
        by_cases hlt : k < m
        · have hlt2 : k < ks.length := by rw [HM.out]; exact hlt
          obtain ⟨x, hx⟩ : ∃ x, ks[k]? = some x := ⟨_, List.getElem?_eq_getElem hlt2⟩
          obtain ⟨qq, hq⟩ := (TmIn.stay HIN.out (grew_still HGR.out HOW.out hbW)).kid
          obtain ⟨⟨bk, o, hKa, hSb, hcells⟩, hxin⟩ := hq k x hx
          dsimp only at hKa
          subst hKa
          have d0 := hcells 0 _ rfl
          have d1 := hcells 1 _ rfl
          have d2 := hcells 2 _ rfl
          have d3 := hcells 3 _ rfl
          have d4 := hcells 4 _ rfl
          have d5 := hcells 5 _ rfl
          have d6 := hcells 6 _ rfl
          have d7 := hcells 7 _ rfl
          rw [Nat.add_zero] at d0
          have HXIN := Aside0.mk hxin
          have HXS := Aside0.mk (kidT_small (k := tk) (n := tn) (nm := nm) (lv := lv) (ls := ls) hx)
          have HXO := Aside0.mk (tmsOk_at HOK.out k x hx)
          have HDK := Aside0.mk (show tmsB (ks.drop k) = tmB x ++ tmsB (ks.drop (k + 1)) by rw [drop_kidT hx, tmsB_cons])
          have hl1 := congrArg List.length HE.out
          rw [HDK.out] at hl1
          simp only [List.length_append] at hl1
          have hbr : base ≤ wr.heap.size := Nat.le_trans hbW HGR.out.1.size
          have HBB := Aside0.mk (show ys.length + (tmB x).length ≤ 140737488350000 by have := HSZ.out; omega)
          have HXV := Aside0.mk (show ∀ w, TmIn w base (qq k) x → OwnB w base u0 ys → base ≤ w.heap.size → Calls Try.prog 31 #[u0, tmV (qq k) x] w (PutPost base u0 ys (tmB x) w) from fun w h1 h2 h3 => IH.out x (by have := HXS.out; have := HNN.out; omega) HXO.out (qq k) base u0 ys w h1 h2 h3 HBB.out)
          clear hcells hxin hx hlt2 hl1 hq
          go_wp2_with (go_at_call 31; go_must (refine (HXV.out _ (by exact TmIn.stay HXIN.out ((Below.refl _ _).alloc hbr _)) (World.ownsRow.alloc HOR.out _) (by simp; omega)).mono ?_; rintro e w3 ⟨v3, rfl, ho3, hg3⟩; have HO3 := Aside0.mk ho3; have HG3 := Aside0.mk (HGR.out.trans (grew_alloc hg3)); clear ho3 hg3))
          go_roundw
          case rel => exact ⟨k + 1, ys ++ tmB x, by go_num, by omega, ⟨by rw [← HE.out, HDK.out, List.append_assoc]⟩, HO3, HG3⟩
          case measure => (simp [intOf]; try omega)
        · obtain rfl : k = m := by omega
          have hlt' : decide ((k : Int) < k) = false := by simp
          have HZ2 := Aside0.mk (show ys = xs ++ tmB (.mk tk tn nm lv ls ks) by rw [← HE.out, List.drop_of_length_le (by rw [HM.out]; exact Nat.le_refl _), tmsB_nil, List.append_nil])
          go_wp2
          go_ret
          exact HFIN.out _ _ _ HZ2.out HOR.out HGR.out
end Go.Proofs.Ytcgkeolgflphiaa

/-! Dc -/
namespace Go.Proofs.Ytcgkeolgflphiaa
open Go.RowKit Go.Proofs.YtcgkeolgflphiaaW.PrintWords Go.RegionInvYtcgkeolgflphiaa

structure Ct where
  nm : ByteArray
  ty : Tm
structure Dc where
  kind : Int
  nm : ByteArray
  vars : Int
  ty : Tm
  val : Tm
  params : Int
  cs : List Ct
structure DPl where
  pt : Pl
  pv : Pl
  C : Option Addr
  e : Nat
  q : Nat → Pl
def ctC (q : Pl) (c : Ct) : List Value := [.string c.nm, .int .i64 c.ty.kind, .int .i64 c.ty.num, .string c.ty.name, .int .i64 c.ty.lv.kind, .int .i64 c.ty.lv.num, .slice q.A c.ty.lv.kids.length q.c, .slice q.B c.ty.ls.length q.d, .slice q.K c.ty.kids.length q.e]
def ctV (q : Pl) (c : Ct) : Value := .agg #[.string c.nm, .int .i64 c.ty.kind, .int .i64 c.ty.num, .string c.ty.name, .int .i64 c.ty.lv.kind, .int .i64 c.ty.lv.num, .slice q.A c.ty.lv.kids.length q.c, .slice q.B c.ty.ls.length q.d, .slice q.K c.ty.kids.length q.e]
abbrev ctO (q : Pl) (c : Ct) : Obj := .cells #[.string c.nm, .int .i64 c.ty.kind, .int .i64 c.ty.num, .string c.ty.name, .int .i64 c.ty.lv.kind, .int .i64 c.ty.lv.num, .slice q.A c.ty.lv.kids.length q.c, .slice q.B c.ty.ls.length q.d, .slice q.K c.ty.kids.length q.e] 63 (0, 0)
def CtAt (w : World) (S : Nat → Prop) (C : Option Addr) (i : Nat) (q : Pl) (c : Ct) : Prop :=
  ∃ b o, C = some ⟨b, o, none⟩ ∧ S b ∧ ∀ (j : Nat) (v : Value), (ctC q c)[j]? = some v → w.cell? ⟨b, o + i * 9 + j, none⟩ = some v
theorem CtAt.same {w w' : World} {S : Nat → Prop} {C : Option Addr} {i : Nat} {q : Pl} {c : Ct} (h : CtAt w S C i q c) (hs : ∀ k, S k → k < w.heap.size → w'.heap[k]? = w.heap[k]?) : CtAt w' S C i q c := by
  obtain ⟨b, o, e, hb, hc⟩ := h
  have hz : b < w.heap.size := World.block_lt_of_cell? w _ (hc 0 _ rfl)
  exact ⟨b, o, e, hb, fun j v hv => (cell_same (hs b hb hz)).trans (hc j v hv)⟩
theorem CtAt.mono {w : World} {S S' : Nat → Prop} {C : Option Addr} {i : Nat} {q : Pl} {c : Ct} (h : CtAt w S C i q c) (hs : ∀ k, S k → k < w.heap.size → S' k) : CtAt w S' C i q c := by
  obtain ⟨b, o, e, hb, hc⟩ := h
  exact ⟨b, o, e, hs b hb (World.block_lt_of_cell? w _ (hc 0 _ rfl)), hc⟩
def dcV (P : DPl) (d : Dc) : Value := .agg #[.int .i64 d.kind, .string d.nm, .int .i64 d.vars, .int .i64 d.ty.kind, .int .i64 d.ty.num, .string d.ty.name, .int .i64 d.ty.lv.kind, .int .i64 d.ty.lv.num, .slice P.pt.A d.ty.lv.kids.length P.pt.c, .slice P.pt.B d.ty.ls.length P.pt.d, .slice P.pt.K d.ty.kids.length P.pt.e, .int .i64 d.val.kind, .int .i64 d.val.num, .string d.val.name, .int .i64 d.val.lv.kind, .int .i64 d.val.lv.num, .slice P.pv.A d.val.lv.kids.length P.pv.c, .slice P.pv.B d.val.ls.length P.pv.d, .slice P.pv.K d.val.kids.length P.pv.e, .int .i64 d.params, .slice P.C d.cs.length P.e]
abbrev dcO (P : DPl) (d : Dc) : Obj := .cells #[.int .i64 d.kind, .string d.nm, .int .i64 d.vars, .int .i64 d.ty.kind, .int .i64 d.ty.num, .string d.ty.name, .int .i64 d.ty.lv.kind, .int .i64 d.ty.lv.num, .slice P.pt.A d.ty.lv.kids.length P.pt.c, .slice P.pt.B d.ty.ls.length P.pt.d, .slice P.pt.K d.ty.kids.length P.pt.e, .int .i64 d.val.kind, .int .i64 d.val.num, .string d.val.name, .int .i64 d.val.lv.kind, .int .i64 d.val.lv.num, .slice P.pv.A d.val.lv.kids.length P.pv.c, .slice P.pv.B d.val.ls.length P.pv.d, .slice P.pv.K d.val.kids.length P.pv.e, .int .i64 d.params, .slice P.C d.cs.length P.e] 30 (0, 0)
/-- A declaration's parts lie in blocks of S. -/
structure DcS (w : World) (S : Nat → Prop) (P : DPl) (d : Dc) : Prop where
  ty : TmS w S P.pt d.ty
  val : TmS w S P.pv d.val
  len : d.cs.length ≤ P.e ∧ P.e ≤ 9223372036854775807
  nm : d.nm.size ≤ 140737488355328
  ct : ∀ (i : Nat) (c : Ct), d.cs[i]? = some c → CtAt w S P.C i (P.q i) c ∧ TmS w S (P.q i) c.ty ∧ c.nm.size ≤ 140737488355328
theorem DcS.same {w w' : World} {S : Nat → Prop} {P : DPl} {d : Dc} (h : DcS w S P d) (hs : ∀ k, S k → k < w.heap.size → w'.heap[k]? = w.heap[k]?) : DcS w' S P d :=
  ⟨h.ty.same hs, h.val.same hs, h.len, h.nm, fun i c hc => ⟨(h.ct i c hc).1.same hs, (h.ct i c hc).2.1.same hs, (h.ct i c hc).2.2⟩⟩
theorem DcS.mono {w : World} {S S' : Nat → Prop} {P : DPl} {d : Dc} (h : DcS w S P d) (hs : ∀ k, S k → k < w.heap.size → S' k) : DcS w S' P d :=
  ⟨h.ty.mono hs, h.val.mono hs, h.len, h.nm, fun i c hc => ⟨(h.ct i c hc).1.mono hs, (h.ct i c hc).2.1.mono hs, (h.ct i c hc).2.2⟩⟩
abbrev DcIn (w : World) (B : Nat) (P : DPl) (d : Dc) : Prop := DcS w (fun k => k < B) P d
theorem DcIn.stay {w w' : World} {B : Nat} {P : DPl} {d : Dc} (h : DcIn w B P d) (hb : Below B w w') : DcIn w' B P d := DcS.same h fun k hk _ => hb.block k hk
theorem DcS.all {w : World} {S : Nat → Prop} {P : DPl} {d : Dc} (h : DcS w S P d) : DcIn w w.heap.size P d := h.mono fun _ _ hk => hk
set_option maxHeartbeats 2000000 in
theorem row21 {w : World} {g : Nat} {v0 v1 v2 v3 v4 v5 v6 v7 v8 v9 v10 v11 v12 v13 v14 v15 v16 v17 v18 v19 v20 : Value} {t : TypeId} (h : w.heap[g]? = some (.cells #[v0, v1, v2, v3, v4, v5, v6, v7, v8, v9, v10, v11, v12, v13, v14, v15, v16, v17, v18, v19, v20] t (0, 0))) : w.cell? ⟨g, 0, none⟩ = some v0 ∧ w.cell? ⟨g, 1, none⟩ = some v1 ∧ w.cell? ⟨g, 2, none⟩ = some v2 ∧ w.cell? ⟨g, 3, none⟩ = some v3 ∧ w.cell? ⟨g, 4, none⟩ = some v4 ∧ w.cell? ⟨g, 5, none⟩ = some v5 ∧ w.cell? ⟨g, 6, none⟩ = some v6 ∧ w.cell? ⟨g, 7, none⟩ = some v7 ∧ w.cell? ⟨g, 8, none⟩ = some v8 ∧ w.cell? ⟨g, 9, none⟩ = some v9 ∧ w.cell? ⟨g, 10, none⟩ = some v10 ∧ w.cell? ⟨g, 11, none⟩ = some v11 ∧ w.cell? ⟨g, 12, none⟩ = some v12 ∧ w.cell? ⟨g, 13, none⟩ = some v13 ∧ w.cell? ⟨g, 14, none⟩ = some v14 ∧ w.cell? ⟨g, 15, none⟩ = some v15 ∧ w.cell? ⟨g, 16, none⟩ = some v16 ∧ w.cell? ⟨g, 17, none⟩ = some v17 ∧ w.cell? ⟨g, 18, none⟩ = some v18 ∧ w.cell? ⟨g, 19, none⟩ = some v19 ∧ w.cell? ⟨g, 20, none⟩ = some v20 := by
  refine ⟨?_, ?_, ?_, ?_, ?_, ?_, ?_, ?_, ?_, ?_, ?_, ?_, ?_, ?_, ?_, ?_, ?_, ?_, ?_, ?_, ?_⟩ <;> (rw [cell_of_row _ _ _ _ _ _ h]; rfl)
theorem row9 {w : World} {g : Nat} {v0 v1 v2 v3 v4 v5 v6 v7 v8 : Value} {t : TypeId} (h : w.heap[g]? = some (.cells #[v0, v1, v2, v3, v4, v5, v6, v7, v8] t (0, 0))) : w.cell? ⟨g, 0, none⟩ = some v0 ∧ w.cell? ⟨g, 1, none⟩ = some v1 ∧ w.cell? ⟨g, 2, none⟩ = some v2 ∧ w.cell? ⟨g, 3, none⟩ = some v3 ∧ w.cell? ⟨g, 4, none⟩ = some v4 ∧ w.cell? ⟨g, 5, none⟩ = some v5 ∧ w.cell? ⟨g, 6, none⟩ = some v6 ∧ w.cell? ⟨g, 7, none⟩ = some v7 ∧ w.cell? ⟨g, 8, none⟩ = some v8 := by
  refine ⟨?_, ?_, ?_, ?_, ?_, ?_, ?_, ?_, ?_⟩ <;> (rw [cell_of_row _ _ _ _ _ _ h]; rfl)
/-! ### may it be? -/
def mayCs (v : Int) : List Ct → Int
  | [] => 0
  | c :: r => if nameB c.nm = false then 8 else if mayT v c.ty ≠ 0 then mayT v c.ty else mayCs v r
def mayI (d : Dc) : Int := if d.params < 0 ∨ 64 < d.params then 1 else if 8 < d.cs.length then 18 else mayCs d.vars d.cs
def mayD (d : Dc) : Int :=
  if d.kind < 1 ∨ 3 < d.kind then 1 else if nameB d.nm = false then 8 else if d.vars < 0 then 1 else if 6 < d.vars then 2 else
  if mayT d.vars d.ty ≠ 0 then mayT d.vars d.ty else if d.kind = 2 then mayT d.vars d.val else if d.kind = 3 then mayI d else 0
theorem cs_name {v : Int} {c : Ct} {r : List Ct} (h : nameB c.nm = false) : mayCs v (c :: r) = 8 := by rw [mayCs, if_pos h]
theorem cs_ty {v : Int} {c : Ct} {r : List Ct} (h : nameB c.nm = true) (h2 : mayT v c.ty ≠ 0) : mayCs v (c :: r) = mayT v c.ty := by rw [mayCs, if_neg (by rw [h]; decide), if_pos h2]
theorem cs_go {v : Int} {c : Ct} {r : List Ct} (h : nameB c.nm = true) (h2 : mayT v c.ty = 0) : mayCs v (c :: r) = mayCs v r := by rw [mayCs, if_neg (by rw [h]; decide), if_neg (fun h => h h2)]
theorem d_kind {d : Dc} (h : d.kind < 1 ∨ 3 < d.kind) : mayD d = 1 := if_pos h
theorem d_name {d : Dc} (h : ¬ (d.kind < 1 ∨ 3 < d.kind)) (h2 : nameB d.nm = false) : mayD d = 8 := by rw [mayD, if_neg h, if_pos h2]
theorem d_v0 {d : Dc} (h : ¬ (d.kind < 1 ∨ 3 < d.kind)) (h2 : nameB d.nm = true) (h3 : d.vars < 0) : mayD d = 1 := by rw [mayD, if_neg h, if_neg (by rw [h2]; decide), if_pos h3]
theorem d_v6 {d : Dc} (h : ¬ (d.kind < 1 ∨ 3 < d.kind)) (h2 : nameB d.nm = true) (h3 : ¬ d.vars < 0) (h4 : 6 < d.vars) : mayD d = 2 := by rw [mayD, if_neg h, if_neg (by rw [h2]; decide), if_neg h3, if_pos h4]
theorem d_ty {d : Dc} (h : ¬ (d.kind < 1 ∨ 3 < d.kind)) (h2 : nameB d.nm = true) (h3 : ¬ d.vars < 0) (h4 : ¬ 6 < d.vars) (h5 : mayT d.vars d.ty ≠ 0) : mayD d = mayT d.vars d.ty := by rw [mayD, if_neg h, if_neg (by rw [h2]; decide), if_neg h3, if_neg h4, if_pos h5]
theorem d_rest {d : Dc} (h : ¬ (d.kind < 1 ∨ 3 < d.kind)) (h2 : nameB d.nm = true) (h3 : ¬ d.vars < 0) (h4 : ¬ 6 < d.vars) (h5 : mayT d.vars d.ty = 0) : mayD d = if d.kind = 2 then mayT d.vars d.val else if d.kind = 3 then mayI d else 0 := by rw [mayD, if_neg h, if_neg (by rw [h2]; decide), if_neg h3, if_neg h4, if_neg (fun h => h h5)]
set_option maxHeartbeats 4000000 in
theorem refmayt_calls (t : Tm) (p : Pl) (v : Int) (w : World) (hin : TmIn w w.heap.size p t) :
    Calls Try.prog 37 #[tmV p t, .int .i64 v] w fun e w' => e = .returned (.int .i64 (mayT v t)) ∧ Below w.heap.size w w' := by
  have HIN := Aside0.mk hin
  obtain ⟨W, hW⟩ : ∃ W, W = (w.alloc (tmO p t)).alloc (.cells #[.int .i64 0] 3 (0, 0)) := ⟨_, rfl⟩
  have hb : Below w.heap.size w W := by rw [hW]; exact below_alloc (below_alloc (Below.refl _ _) _) _
  have HX := Aside0.mk (show W.heap[w.heap.size]? = some (tmO p t) by rw [hW]; exact blk_alloc (blk_new _ _) _)
  have HN1 := Aside0.mk (show NumAt W (w.heap.size + 1) 0 by rw [hW]; have := blk_new (w.alloc (tmO p t)) (.cells #[.int .i64 0] 3 (0, 0)); simp only [World.size_alloc] at this; exact this)
  have HB := Aside0.mk hb
  clear hin hb
  unfold tmV
  unfold tmO at hW
  go_enter Try.func37, Try.ntmps37
  go_upto_region 2 with (fail)
  rw [← hW]
  clear hW
  obtain ⟨c0, c1, c2, c3, c4, c5, c6, c7⟩ := row8 HX.out
  go_wp2_with (go_at_call 64; go_must (refine (ref_mayt v _ t (Nat.lt_succ_self _) p 1 0 0 (w.heap.size + 1) w.heap.size W (HIN.out.stay HB.out) HN1.out (by omega) (by decide) (by decide) (by decide) (by decide)).mono ?_; rintro e w2 ⟨rfl, -, hC⟩; have HB2 := Aside0.mk (Chg.trans_below HB.out hC (fun k h => by omega) HB.out.size); clear hC))
  go_ret
  exact ⟨rfl, HB2.out⟩
set_option maxRecDepth 100000 in
set_option maxHeartbeats 8000000 in
theorem mayInd_calls (d : Dc) (P : DPl) (w : World) (hin : DcIn w w.heap.size P d) :
    Calls Try.prog 35 #[dcV P d] w fun e w' => e = .returned (.int .i64 (mayI d)) ∧ Below w.heap.size w w' := by
  have HCS := Aside0.mk hin
  obtain ⟨W, hW⟩ : ∃ W, W = w.alloc (dcO P d) := ⟨_, rfl⟩
  have hb : Below w.heap.size w W := by rw [hW]; exact below_alloc (Below.refl _ _) _
  have HX := Aside0.mk (show W.heap[w.heap.size]? = some (dcO P d) by rw [hW]; exact blk_new _ _)
  have HB := Aside0.mk hb
  have hlen := hin.len
  clear hin hb
  unfold dcV
  unfold dcO at hW
  obtain ⟨c0, c1, c2, c3, c4, c5, c6, c7, c8, c9, c10, c11, c12, c13, c14, c15, c16, c17, c18, c19, c20⟩ := row21 HX.out
  obtain ⟨m, hm⟩ : ∃ m, d.cs.length = m := ⟨_, rfl⟩
  have HM := Aside0.mk hm
  rw [hm] at hW c20 hlen ⊢
  have hm9 : m ≤ 9223372036854775807 := by omega
  clear hm hlen
  go_enter Try.func35, Try.ntmps35
  go_upto_region 1 with (fail)
  rw [← hW]
  clear hW
  by_cases p0 : d.params < 0
  · have HR := Aside0.mk (show mayI d = 1 from if_pos (.inl p0))
    go_wp2
    go_ret
    rw [HR.out]
    exact ⟨rfl, HB.out⟩
  · by_cases p1 : 64 < d.params
    · have HR := Aside0.mk (show mayI d = 1 from if_pos (.inr p1))
      go_wp2
      go_ret
      rw [HR.out]
      exact ⟨rfl, HB.out⟩
    · by_cases p2 : 8 < m
      · have HR := Aside0.mk (show mayI d = 18 by rw [mayI, if_neg (by omega), if_pos (by rw [HM.out]; exact p2)])
        have p2' : (8 : Int) < m := by omega
        go_wp2
        go_ret
        rw [HR.out]
        exact ⟨rfl, HB.out⟩
      · have HR := Aside0.mk (show mayI d = mayCs d.vars d.cs by rw [mayI, if_neg (by omega), if_neg (by rw [HM.out]; exact p2)])
        have p2' : ¬ (8 : Int) < m := by omega
        clear p2
        go_wp2
        go_loopw [23] (fun i wr => ∃ k : Nat, i = .int .i64 k ∧ k ≤ m ∧ Aside0 (mayCs d.vars (d.cs.drop k) = mayCs d.vars d.cs) ∧ Aside0 (Below w.heap.size w wr) ∧ Aside0 (wr.heap[w.heap.size]? = some (dcO P d))) (fun i _ => m - (intOf i).toNat)
        case atStart => exact ⟨0, rfl, Nat.zero_le _, ⟨rfl⟩, HB, HX⟩
        case round =>
          clear HB HX
          obtain ⟨k, rfl, hk, HK, HBW, HXR⟩ := hrel
          by_cases hlt : k < m
          · have hlt2 : k < d.cs.length := by rw [HM.out]; exact hlt
            obtain ⟨c, hc⟩ : ∃ c, d.cs[k]? = some c := ⟨_, List.getElem?_eq_getElem hlt2⟩
            obtain ⟨⟨bk, o, hPC, hSb, hcells⟩, htm, hnm⟩ := (DcIn.stay HCS.out HBW.out).ct k c hc
            have HPC := Aside0.mk hPC
            have d0 := hcells 0 _ rfl
            have d1 := hcells 1 _ rfl
            have d2 := hcells 2 _ rfl
            have d3 := hcells 3 _ rfl
            have d4 := hcells 4 _ rfl
            have d5 := hcells 5 _ rfl
            have d6 := hcells 6 _ rfl
            have d7 := hcells 7 _ rfl
            have d8 := hcells 8 _ rfl
            rw [Nat.add_zero] at d0
            have HCT := Aside0.mk (show TmIn w w.heap.size (P.q k) c.ty from ((HCS.out).ct k c hc).2.1)
            have HNS := Aside0.mk hnm
            have HDC := Aside0.mk (show d.cs.drop k = c :: d.cs.drop (k + 1) from by
              rw [List.drop_eq_getElem_cons hlt2]
              rw [List.getElem?_eq_getElem hlt2] at hc
              rw [Option.some.inj hc])
            have hzr := blk_lt HXR.out
            have HBA := Aside0.mk (show Below w.heap.size w (wr.alloc (ctO (P.q k) c)) from HBW.out.alloc HBW.out.size _)
            clear hcells htm hnm hc hlt2
            rw [hPC]
            clear hPC
            cases hnv : nameB c.nm with
            | false =>
              have HNV := Aside0.mk hnv
              have HE := Aside0.mk (show mayCs d.vars d.cs = 8 by rw [← HK.out, HDC.out, cs_name hnv])
              clear hnv
              go_wp2_with (go_at_call 33; go_must (refine (name_calls c.nm _).mono ?_; rintro e w3 ⟨rfl, hb⟩; rw [HNV.out]; have hx3 := (hb.block _ (by simp only [World.size_alloc]; omega)).trans (blk_new wr (ctO (P.q k) c)); have HX3 := Aside0.mk hx3; have hd3 := (hb.block w.heap.size (by simp only [World.size_alloc]; omega)).trans (blk_alloc HXR.out (ctO (P.q k) c)); obtain ⟨r0, r1, r2, r3, r4, r5, r6, r7, r8⟩ := row9 hx3; have hv3 : w3.cell? ⟨w.heap.size, 2, none⟩ = some (.int .i64 d.vars) := (by rw [cell_of_row _ _ _ _ _ _ hd3]; rfl); have HB3 := Aside0.mk (show Below w.heap.size w w3 from Below.trans HBA.out (hb.mono HBA.out.size)); have HD3 := Aside0.mk hd3; have HZ3 := Aside0.mk (blk_lt hd3); clear hb hx3 hd3))
              go_ret
              rw [HR.out, HE.out]
              exact ⟨rfl, HB3.out⟩
            | true =>
              have HNV := Aside0.mk hnv
              by_cases h2 : mayT d.vars c.ty = 0
              · have HMV := Aside0.mk h2
                have HK2 := Aside0.mk (show mayCs d.vars (d.cs.drop (k + 1)) = mayCs d.vars d.cs by rw [← HK.out, HDC.out, cs_go hnv h2])
                clear hnv h2
                go_wp2_with (first
                  | (go_at_call 33; go_must (refine (name_calls c.nm _).mono ?_; rintro e w3 ⟨rfl, hb⟩; rw [HNV.out]; have hx3 := (hb.block _ (by simp only [World.size_alloc]; omega)).trans (blk_new wr (ctO (P.q k) c)); have HX3 := Aside0.mk hx3; have hd3 := (hb.block w.heap.size (by simp only [World.size_alloc]; omega)).trans (blk_alloc HXR.out (ctO (P.q k) c)); obtain ⟨r0, r1, r2, r3, r4, r5, r6, r7, r8⟩ := row9 hx3; have hv3 : w3.cell? ⟨w.heap.size, 2, none⟩ = some (.int .i64 d.vars) := (by rw [cell_of_row _ _ _ _ _ _ hd3]; rfl); have HB3 := Aside0.mk (show Below w.heap.size w w3 from Below.trans HBA.out (hb.mono HBA.out.size)); have HD3 := Aside0.mk hd3; have HZ3 := Aside0.mk (blk_lt hd3); clear hb hx3 hd3))
                  | (go_at_call 34; go_must (refine (mayt_calls c.ty (P.q k) d.vars _ (TmS.all (TmIn.stay HCT.out HB3.out))).mono ?_; rintro e w4 ⟨rfl, hb⟩; rw [HMV.out]; have HXX4 := Aside0.mk (show w4.heap[w.heap.size]? = some (dcO P d) from (hb.block _ HZ3.out).trans HD3.out); have HB4 := Aside0.mk (show Below w.heap.size w w4 from Below.trans HB3.out (hb.mono HB3.out.size)); clear hb)))
                go_roundw
                case rel => exact ⟨k + 1, by go_num, by omega, HK2, HB4, ⟨HXX4.out⟩⟩
                case measure => (simp [intOf]; try omega)
              · have HE := Aside0.mk (show mayCs d.vars d.cs = mayT d.vars c.ty by rw [← HK.out, HDC.out, cs_ty hnv h2])
                obtain ⟨e2, he2⟩ : ∃ e2, mayT d.vars c.ty = e2 := ⟨_, rfl⟩
                rw [he2] at h2 HE
                have HMV := Aside0.mk he2
                have h2' : (e2 != 0) = true := by simpa using h2
                clear hnv h2 he2
                go_wp2_with (first
                  | (go_at_call 33; go_must (refine (name_calls c.nm _).mono ?_; rintro e w3 ⟨rfl, hb⟩; rw [HNV.out]; have hx3 := (hb.block _ (by simp only [World.size_alloc]; omega)).trans (blk_new wr (ctO (P.q k) c)); have HX3 := Aside0.mk hx3; have hd3 := (hb.block w.heap.size (by simp only [World.size_alloc]; omega)).trans (blk_alloc HXR.out (ctO (P.q k) c)); obtain ⟨r0, r1, r2, r3, r4, r5, r6, r7, r8⟩ := row9 hx3; have hv3 : w3.cell? ⟨w.heap.size, 2, none⟩ = some (.int .i64 d.vars) := (by rw [cell_of_row _ _ _ _ _ _ hd3]; rfl); have HB3 := Aside0.mk (show Below w.heap.size w w3 from Below.trans HBA.out (hb.mono HBA.out.size)); have HD3 := Aside0.mk hd3; have HZ3 := Aside0.mk (blk_lt hd3); clear hb hx3 hd3))
                  | (go_at_call 34; go_must (refine (mayt_calls c.ty (P.q k) d.vars _ (TmS.all (TmIn.stay HCT.out HB3.out))).mono ?_; rintro e w4 ⟨rfl, hb⟩; rw [HMV.out]; have HB4 := Aside0.mk (show Below w.heap.size w w4 from Below.trans HB3.out (hb.mono HB3.out.size)); clear hb)))
                go_ret
                rw [HR.out, HE.out]
                exact ⟨rfl, HB4.out⟩
          · obtain rfl : k = m := by omega
            have hlt' : decide ((k : Int) < k) = false := by simp
            have HZ := Aside0.mk (show mayCs d.vars d.cs = 0 by rw [← HK.out, List.drop_of_length_le (by rw [HM.out]; exact Nat.le_refl _), mayCs])
            go_wp2
            go_ret
            rw [HR.out, HZ.out]
            exact ⟨rfl, HBW.out⟩
theorem MayAt.of {f : FuncId} {a b : Value} {w : World} {Q : Ending → World → Prop} (h : a = b) (hc : Calls Try.prog f #[a] w Q) : Calls Try.prog f #[b] w Q := h ▸ hc
set_option maxRecDepth 100000 in
set_option maxHeartbeats 8000000 in
theorem mayd_calls (d : Dc) (P : DPl) (w : World) (hin : DcIn w w.heap.size P d) :
    Calls Try.prog 13 #[dcV P d] w fun e w' => e = .returned (.int .i64 (mayD d)) ∧ Below w.heap.size w w' := by
  have HCS := Aside0.mk hin
  obtain ⟨W, hW⟩ : ∃ W, W = w.alloc (dcO P d) := ⟨_, rfl⟩
  have hb : Below w.heap.size w W := by rw [hW]; exact below_alloc (Below.refl _ _) _
  have HX := Aside0.mk (show W.heap[w.heap.size]? = some (dcO P d) by rw [hW]; exact blk_new _ _)
  have HB := Aside0.mk hb
  have hlen := hin.len
  clear hin hb
  unfold dcV
  unfold dcO at hW
  obtain ⟨c0, c1, c2, c3, c4, c5, c6, c7, c8, c9, c10, c11, c12, c13, c14, c15, c16, c17, c18, c19, c20⟩ := row21 HX.out
  obtain ⟨m, hm⟩ : ∃ m, d.cs.length = m := ⟨_, rfl⟩
  have HM := Aside0.mk hm
  rw [hm] at hW c20 hlen ⊢
  have hm9 : m ≤ 9223372036854775807 := by omega
  clear hm hlen
  go_enter Try.func13, Try.ntmps13
  go_upto_region 1 with (fail)
  rw [← hW]
  clear hW
  by_cases k0 : d.kind < 1
  · have HR := Aside0.mk (d_kind (.inl k0))
    go_wp2
    go_ret
    rw [HR.out]
    exact ⟨rfl, HB.out⟩
  · by_cases k3 : 3 < d.kind
    · have HR := Aside0.mk (d_kind (.inr k3))
      go_wp2
      go_ret
      rw [HR.out]
      exact ⟨rfl, HB.out⟩
    · have HK := Aside0.mk (show ¬ (d.kind < 1 ∨ 3 < d.kind) by omega)
      go_upto_region 3 with (fail)
      cases hnv : nameB d.nm with
      | false =>
        have HNV := Aside0.mk hnv
        have HR := Aside0.mk (d_name HK.out hnv)
        clear hnv
        go_wp2_with (go_at_call 33; go_must (refine (name_calls d.nm _).mono ?_; rintro e w1 ⟨rfl, hb⟩; rw [HNV.out]; have hx1 := (hb.block _ (blk_lt HX.out)).trans HX.out; have HX1 := Aside0.mk hx1; obtain ⟨a0, a1, a2, a3, a4, a5, a6, a7, a8, a9, a10, a11, a12, a13, a14, a15, a16, a17, a18, a19, a20⟩ := row21 hx1; have HB1 := Aside0.mk (show Below w.heap.size w w1 from Below.trans HB.out (hb.mono HB.out.size)); rw [HM.out] at a20; clear hb hx1))
        go_ret
        rw [HR.out]
        exact ⟨rfl, HB1.out⟩
      | true =>
        have HNV := Aside0.mk hnv
        clear hnv
        go_upto_region 5 with (go_at_call 33; go_must (refine (name_calls d.nm _).mono ?_; rintro e w1 ⟨rfl, hb⟩; rw [HNV.out]; have hx1 := (hb.block _ (blk_lt HX.out)).trans HX.out; have HX1 := Aside0.mk hx1; obtain ⟨a0, a1, a2, a3, a4, a5, a6, a7, a8, a9, a10, a11, a12, a13, a14, a15, a16, a17, a18, a19, a20⟩ := row21 hx1; have HB1 := Aside0.mk (show Below w.heap.size w w1 from Below.trans HB.out (hb.mono HB.out.size)); rw [HM.out] at a20; clear hb hx1))
        clear c0 c1 c2 c3 c4 c5 c6 c7 c8 c9 c10 c11 c12 c13 c14 c15 c16 c17 c18 c19 c20
        clear HX HB
        by_cases v0 : d.vars < 0
        · have HR := Aside0.mk (d_v0 HK.out HNV.out v0)
          go_wp2
          go_ret
          rw [HR.out]
          exact ⟨rfl, HB1.out⟩
        · go_upto_region 7 with (fail)
          by_cases v6 : 6 < d.vars
          · have HR := Aside0.mk (d_v6 HK.out HNV.out v0 v6)
            go_wp2
            go_ret
            rw [HR.out]
            exact ⟨rfl, HB1.out⟩
          · go_upto_region 9 with (fail)
            by_cases ht : mayT d.vars d.ty = 0
            · have HTV := Aside0.mk ht
              have HRR := Aside0.mk (d_rest HK.out HNV.out v0 v6 ht)
              clear ht
              go_upto_region 12 with (go_at_call 34; go_must (refine (mayt_calls d.ty P.pt d.vars _ (TmS.all (TmIn.stay HCS.out.ty HB1.out))).mono ?_; rintro e w2 ⟨rfl, hb⟩; rw [HTV.out]; have hx2 := (hb.block _ (blk_lt HX1.out)).trans HX1.out; have HX2 := Aside0.mk hx2; obtain ⟨b0, b1, b2, b3, b4, b5, b6, b7, b8, b9, b10, b11, b12, b13, b14, b15, b16, b17, b18, b19, b20⟩ := row21 hx2; rw [HM.out] at b20; have HB2 := Aside0.mk (show Below w.heap.size w w2 from Below.trans HB1.out (hb.mono HB1.out.size)); clear hb hx2))
              clear HX1 HB1 a0 a1 a2 a3 a4 a5 a6 a7 a8 a9 a10 a11 a12 a13 a14 a15 a16 a17 a18 a19 a20
              by_cases k2 : d.kind = 2
              · have e2 : (d.kind == 2) = true := by simp [k2]
                have HR := Aside0.mk (HRR.out.trans (if_pos k2))
                clear k2
                go_wp2_with (go_at_call 34; go_must (refine (mayt_calls d.val P.pv d.vars _ (TmS.all (TmIn.stay HCS.out.val HB2.out))).mono ?_; rintro e w3 ⟨rfl, hb⟩; have HB3 := Aside0.mk (show Below w.heap.size w w3 from Below.trans HB2.out (hb.mono HB2.out.size)); clear hb))
                go_ret
                rw [HR.out]
                exact ⟨rfl, HB3.out⟩
              · have e2 : (d.kind == 2) = false := by simp [k2]
                by_cases k33 : d.kind = 3
                · have e3 : (d.kind == 3) = true := by simp [k33]
                  have HR := Aside0.mk ((HRR.out.trans (if_neg k2)).trans (if_pos k33))
                  clear k2 k33 b1 b2 b3 b4 b5 b6 b7 b8 b9 b10 b11 b12 b13 b14 b15 b16 b17 b18 b19 b20
                  go_wp2_with (first
                    | (refine wpList_load_row rfl 30 _ rfl w.heap.size rfl 30 _ (0, 0) _ HX2.out Try.underlying30 rfl (by kernel_rfl) ?_)
                    | (go_at_call 35; go_must (refine (mayInd_calls d P w2 (DcS.all (DcIn.stay HCS.out HB2.out))).mono ?_; rintro e w3 ⟨rfl, hb⟩; have HB3 := Aside0.mk (show Below w.heap.size w w3 from Below.trans HB2.out (hb.mono HB2.out.size)); clear hb)))
                  go_ret
                  rw [HR.out]
                  exact ⟨rfl, HB3.out⟩
                · have e3 : (d.kind == 3) = false := by simp [k33]
                  have HR := Aside0.mk ((HRR.out.trans (if_neg k2)).trans (if_neg k33))
                  clear k2 k33
                  go_wp2
                  go_ret
                  rw [HR.out]
                  exact ⟨rfl, HB2.out⟩
            · obtain ⟨e5, he5⟩ : ∃ e5, mayT d.vars d.ty = e5 := ⟨_, rfl⟩
              have HR := Aside0.mk ((d_ty HK.out HNV.out v0 v6 ht).trans he5)
              rw [he5] at ht
              have HTV := Aside0.mk he5
              have ht' : (e5 != 0) = true := by simpa using ht
              clear ht he5
              go_wp2_with (go_at_call 34; go_must (refine (mayt_calls d.ty P.pt d.vars _ (TmS.all (TmIn.stay HCS.out.ty HB1.out))).mono ?_; rintro e w2 ⟨rfl, hb⟩; rw [HTV.out]; have hx2 := (hb.block _ (blk_lt HX1.out)).trans HX1.out; have HX2 := Aside0.mk hx2; obtain ⟨b0, b1, b2, b3, b4, b5, b6, b7, b8, b9, b10, b11, b12, b13, b14, b15, b16, b17, b18, b19, b20⟩ := row21 hx2; rw [HM.out] at b20; have HB2 := Aside0.mk (show Below w.heap.size w w2 from Below.trans HB1.out (hb.mono HB1.out.size)); clear hb hx2))
              go_ret
              rw [HR.out]
              exact ⟨rfl, HB2.out⟩
end Go.Proofs.Ytcgkeolgflphiaa
