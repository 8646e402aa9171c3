/-
  Merged: Same, SlB, SeW, NrRl, Near, DbI, DbP, Alik, TDbR, LawTD.
-/
import Derived.Test.YtdboloabpjmgaaaMDoubles3
/-! Same -/
namespace Go.Proofs.Ytdboloabpjmgaaa
open Go.RowKit Go.Proofs.YtdboloabpjmgaaaW.PrintWords Go.RegionInvYtdboloabpjmgaaa Go.RegionEYtdboloabpjmgaaa

structure SmB (w wr : World) (g : Nat) (s : Int) (k1 n1 : Int) (V1 : Value) (k2 n2 : Int) (V2 : Value) : Prop where
  x3 : wr.heap[w.heap.size]? = some (.cells #[.int .i64 k1, .int .i64 n1, V1] 25 (0, 0))
  x4 : wr.heap[w.heap.size + 1]? = some (.cells #[.int .i64 k2, .int .i64 n2, V2] 25 (0, 0))
  num : NumAt wr g s
  chg : Chg (fun k => k = g) w wr
set_option maxRecDepth 4000 in
set_option maxHeartbeats 8000000 in
theorem ref_same (N : Nat) : ∀ (l : Lv), SizeOf.sizeOf l < N → ∀ (l' : Lv) (A A' : Option Addr) (c c' : Nat) (s : Nat) (g : Nat) (w : World), LvS w (fun k => k ≠ g) A c l → LvS w (fun k => k ≠ g) A' c' l' → NumAt w g s → s + sz l ≤ 5000 →
    Calls Try.prog 102 #[lvV A c l, lvV A' c' l', .pointer (some ⟨g, 0, none⟩)] w (SamePost w g (simB l l') ((s + sz l : Nat) : Int)) := by
  induction N with
  | zero => intro l h; omega
  | succ N ih =>
    rintro ⟨lk, ln, ks⟩ hN ⟨lk', ln', ks'⟩ A A' c c' s g w hin hin' hg hs
    have IH := Aside0.mk ih
    have HIN := Aside0.mk hin
    have HIN' := Aside0.mk hin'
    have HG := Aside0.mk hg
    have hcell := hg.cell
    have hfz := blk_frozen hg 0
    have hlen := hin.len
    have hlen' := hin'.len
    have hglt := blk_lt hg
    have hgne : g ≠ w.heap.size := Nat.ne_of_lt hglt
    have hgne1 : g ≠ w.heap.size + 1 := by omega
    rw [sz_mk] at hs ⊢
    clear ih hin hin' hg
    unfold lvV
    simp only [Lv.kind, Lv.num, Lv.kids] at hlen hlen' ⊢
    obtain ⟨m, hm⟩ : ∃ m, m = ks.length := ⟨_, rfl⟩
    obtain ⟨m', hm'⟩ : ∃ m', m' = ks'.length := ⟨_, rfl⟩
    rw [← hm] at hlen ⊢
    rw [← hm'] at hlen' ⊢
    have HM := Aside0.mk hm
    have HM' := Aside0.mk hm'
    obtain ⟨W, hW⟩ : ∃ W, W = (((w.setCell ⟨g, 0, none⟩ (.int .i64 ((s : Int) + 1))).alloc (.cells #[.int .i64 lk, .int .i64 ln, .slice A m c] 25 (0, 0))).alloc (.cells #[.int .i64 lk', .int .i64 ln', .slice A' m' c'] 25 (0, 0))) := ⟨_, rfl⟩
    have hst : SmB w W g ((s : Int) + 1) lk ln (.slice A m c) lk' ln' (.slice A' m' c') := by
      have hz : (w.setCell ⟨g, 0, none⟩ (.int .i64 ((s : Int) + 1))).heap.size = w.heap.size := by simp [World.setCell]
      rw [hW]
      refine ⟨?_, ?_, ((HG.out.set _).alloc _).alloc _, chg_trans (chg_trans (chg_set _ _ _ _) (chg_alloc _ _ _)) (chg_alloc _ _ _)⟩
      · have := box0 (w.setCell ⟨g, 0, none⟩ (.int .i64 ((s : Int) + 1))) (.cells #[.int .i64 lk, .int .i64 ln, .slice A m c] 25 (0, 0)) (.cells #[.int .i64 lk', .int .i64 ln', .slice A' m' c'] 25 (0, 0))
        rwa [hz] at this
      · have := box1 (w.setCell ⟨g, 0, none⟩ (.int .i64 ((s : Int) + 1))) (.cells #[.int .i64 lk, .int .i64 ln, .slice A m c] 25 (0, 0)) (.cells #[.int .i64 lk', .int .i64 ln', .slice A' m' c'] 25 (0, 0))
        rwa [hz] at this
    have HST := Aside0.mk hst
    clear hst hm hm'
    have hwr : IntKind.i64.wrap ((s : Int) + 1) = (s : Int) + 1 := by rw [Go.IntWalk.i64_left, Go.IntWalk.wrap64_in _ (by omega)]
    have hlt5 : ¬ (5000 : Int) < (s : Int) + 1 := by omega
    go_enter Try.func102, Try.ntmps102
    go_upto_region 2 with (fail)
    rw [← hW]
    clear hW hcell hfz
    have hcell := HST.out.num.cell
    obtain ⟨p0, p1, p2, -, -, -⟩ := row3 HST.out.x3
    obtain ⟨q0, q1, q2, -, -, -⟩ := row3 HST.out.x4
    by_cases hk : lk = lk'
    · have hkb : (lk != lk') = false := by simp [hk]
      by_cases hn : lk = 4 ∨ ln = ln'
      · by_cases hmm : m = m'
        · have hmb : ((m : Int) != (m' : Int)) = false := by simp [hmm]
          have HE := Aside0.mk (sim_ok (k := lk) (n := ln) (ks := ks) (l := .mk lk' ln' ks') ⟨hk, hn, by simp only [Lv.kids]; rw [← HM.out, ← HM'.out, hmm]⟩)
          go_upto_region 4 with (fail)
          go_cut [42] (fun v wr => v = .bool false ∧ wr = W)
          case first =>
            by_cases hk4 : lk = 4
            · have h4 : (lk != 4) = false := by simp [hk4]
              clear hk hn hk4 hmm
              go_wp2
              go_meet
              case rel => exact ⟨rfl, by first | rfl | trivial⟩
            · have h4 : (lk != 4) = true := by simp [hk4]
              have h5 : (ln != ln') = false := by simp; omega
              clear hk hn hk4 hmm
              go_wp2
              go_meet
              case rel => exact ⟨rfl, by first | rfl | trivial⟩
          case rest =>
            obtain ⟨rfl, rfl⟩ := hcut
            subst hmm
            have HML := Aside0.mk (show ks.length = ks'.length by rw [← HM.out, HM'.out])
            have hst0 : SmB w wc g ((s + 1 + szs (ks.take 0) : Nat) : Int) lk ln (.slice A m c) lk' ln' (.slice A' m c') := by
              rw [show ((s + 1 + szs (ks.take 0) : Nat) : Int) = (s : Int) + 1 by rw [List.take_zero, szs_nil]; omega]
              exact HST.out
            have HST0 := Aside0.mk hst0
            clear hk hn hkb hmb hcell HST hst0 q0 q1 q2
            go_wp2
            go_loopw [46] (fun i wr => ∃ (j : Nat), i = .int .i64 j ∧ j ≤ m ∧ Aside0 (∀ (i : Nat) (x y : Lv), i < j → ks[i]? = some x → ks'[i]? = some y → simB x y = true) ∧ Aside0 (SmB w wr g ((s + 1 + szs (ks.take j) : Nat) : Int) lk ln (.slice A m c) lk' ln' (.slice A' m c'))) (fun i _ => m - (intOf i).toNat)
            case atStart => exact ⟨0, rfl, Nat.zero_le _, ⟨fun i x y h => by omega⟩, HST0⟩
            case round =>
              clear HST0 p0 p1 p2
              obtain ⟨j, rfl, hj, HALL, HST⟩ := hrel
              by_cases hlt : j < m
              · obtain ⟨x, hx⟩ : ∃ x, ks[j]? = some x := ⟨_, List.getElem?_eq_getElem (by rw [← HM.out]; exact hlt)⟩
                obtain ⟨y, hy⟩ : ∃ y, ks'[j]? = some y := ⟨_, List.getElem?_eq_getElem (by rw [← HM'.out]; exact hlt)⟩
                have hinr : LvS wr (fun k => k ≠ g) A c (.mk lk ln ks) := HIN.out.same fun k hk hz => HST.out.chg.block k hz hk
                have hinr' : LvS wr (fun k => k ≠ g) A' c' (.mk lk' ln' ks') := HIN'.out.same fun k hk hz => HST.out.chg.block k hz hk
                obtain ⟨A1, c1, hcs, hxin⟩ := hinr.kid j x hx
                obtain ⟨A2, c2, hcs', hyin⟩ := hinr'.kid j y hy
                obtain ⟨ga, oa, rfl, hga⟩ := kid_ptr hcs
                obtain ⟨gd, od, rfl, hgd⟩ := kid_ptr hcs'
                have HC := Aside0.mk (lit_kid hcs)
                have HC' := Aside0.mk (lit_kid hcs')
                have HX := Aside0.mk hx
                have HY := Aside0.mk hy
                have HXIN := Aside0.mk hxin
                have HYIN := Aside0.mk hyin
                have hzs := szs_part hx
                have HZT := Aside0.mk (szs_take hx)
                have hgal := World.block_lt_of_cell? wr _ HC.out.1
                have hgdl := World.block_lt_of_cell? wr _ HC'.out.1
                clear hinr hinr' hcs hcs' hx hy hxin hyin
                go_upto_region 9 with (fail)
                refine sm_region wr g w.heap.size j lk ln lk' ln' ga oa gd od m c c' x.kind x.num y.kind y.num A1 A2 x.kids.length c1 y.kids.length c2 (simB x y) ((s + 1 + szs (ks.take j) + sz x : Nat) : Int) HST.out.x3 HST.out.x4 hglt hgal hga hgdl hgd hlt HC.out.1 HC.out.2.1 HC.out.2.2 HC'.out.1 HC'.out.2.1 HC'.out.2.2 HST.out.num (fun w5 hw5 hn5 hz5 => ?_) ?_
                · exact IH.out x (Nat.lt_of_lt_of_le (kid_small HX.out) (Nat.le_of_lt_succ hN)) y A1 A2 c1 c2 (s + 1 + szs (ks.take j)) g w5 (HXIN.out.same fun k hk hz => hw5 k hz hk) (HYIN.out.same fun k hk hz => hw5 k hz hk) hn5 (by omega)
                · intro w' u60 O11 hch hf hown
                  clear hown
                  obtain ⟨-, -, s', hns, hsr⟩ := hf
                  have hcw : Chg (fun k => k = g) wr w' := hch.mono fun k h => h.elim id False.elim
                  have hst1 : SmB w w' g s' lk ln (.slice (some ⟨ga, oa, none⟩) m c) lk' ln' (.slice (some ⟨gd, od, none⟩) m c') := ⟨hcw.still HST.out.x3 (by omega), hcw.still HST.out.x4 (by omega), hns, chg_trans HST.out.chg hcw⟩
                  have HST1 := Aside0.mk hst1
                  cases hsim : simB x y with
                  | true =>
                    have HS' := Aside0.mk (hsr hsim)
                    have HALL' := Aside0.mk (show ∀ (i : Nat) (x y : Lv), i < j + 1 → ks[i]? = some x → ks'[i]? = some y → simB x y = true from fun i x2 y2 hi h1 h2 => by
                      by_cases e : i = j
                      · subst e
                        obtain rfl : x = x2 := Option.some.inj (HX.out.symm.trans h1)
                        obtain rfl : y = y2 := Option.some.inj (HY.out.symm.trans h2)
                        exact hsim
                      · exact HALL.out i x2 y2 (by omega) h1 h2)
                    clear hch hns hsr hcw hst1 hsim hzs hgal hgdl hga hgd hwr hgne hgne1 hs hlt5
                    go_wp2
                    go_roundw
                    case rel => exact ⟨j + 1, by go_num, by omega, HALL', ⟨by have h := HST1.out; rw [HS'.out] at h; rw [HZT.out, ← Nat.add_assoc]; exact h⟩⟩
                    case measure => (simp [intOf]; try omega)
                  | false =>
                    have HF := Aside0.mk (show simB (.mk lk ln ks) (.mk lk' ln' ks') = false by rw [HE.out]; exact simKs_not HX.out HY.out hsim)
                    clear hch hns hsr hcw hst1 hsim hzs hgal hgdl hga hgd hwr hgne hgne1 hs hlt5
                    go_wp2
                    go_ret
                    exact ⟨by rw [HF.out]; rfl, ⟨_, HST1.out.num, fun h => by rw [HF.out] at h; cases h⟩, HST1.out.chg⟩
              · obtain rfl : j = m := by omega
                have hlt' : decide ((j : Int) < j) = false := by simp
                have HF := Aside0.mk (show simB (.mk lk ln ks) (.mk lk' ln' ks') = true by
                  rw [HE.out]
                  exact simKs_all HML.out fun i x y h1 h2 => HALL.out i x y (by rw [HM.out]; exact (List.getElem?_eq_some_iff.1 h1).1) h1 h2)
                have HSZ := Aside0.mk (show s + 1 + szs (ks.take j) = s + (szs ks + 1) by rw [List.take_of_length_le (by rw [← HM.out]; exact Nat.le_refl _)]; omega)
                go_wp2
                go_ret
                exact ⟨by rw [HF.out]; rfl, ⟨_, HST.out.num, fun _ => by rw [HSZ.out]⟩, HST.out.chg⟩
        · have hmb : ((m : Int) != (m' : Int)) = true := by simp; omega
          have HE := Aside0.mk (sim_bad (k := lk) (n := ln) (ks := ks) (l := .mk lk' ln' ks') (fun h => hmm (by have := h.2.2; simp only [Lv.kids] at this; rw [HM.out, HM'.out]; exact this)))
          by_cases hk4 : lk = 4
          · have h4 : (lk != 4) = false := by simp [hk4]
            clear hk hn hk4 hmm
            go_wp2
            go_ret
            exact ⟨by rw [HE.out]; rfl, ⟨_, HST.out.num, fun h => by rw [HE.out] at h; cases h⟩, HST.out.chg⟩
          · have h4 : (lk != 4) = true := by simp [hk4]
            have h5 : (ln != ln') = false := by simp; omega
            clear hk hn hk4 hmm
            go_wp2
            go_ret
            exact ⟨by rw [HE.out]; rfl, ⟨_, HST.out.num, fun h => by rw [HE.out] at h; cases h⟩, HST.out.chg⟩
      · have h4 : (lk != 4) = true := by simp; omega
        have h5 : (ln != ln') = true := by simp; omega
        have HE := Aside0.mk (sim_bad (k := lk) (n := ln) (ks := ks) (l := .mk lk' ln' ks') (fun h => hn h.2.1))
        clear hk hn
        go_wp2
        go_ret
        exact ⟨by rw [HE.out]; rfl, ⟨_, HST.out.num, fun h => by rw [HE.out] at h; cases h⟩, HST.out.chg⟩
    · have hkb : (lk != lk') = true := by simp [hk]
      have HE := Aside0.mk (sim_bad (k := lk) (n := ln) (ks := ks) (l := .mk lk' ln' ks') (fun h => hk h.1))
      clear hk
      go_wp2
      go_ret
      exact ⟨by rw [HE.out]; rfl, ⟨_, HST.out.num, fun h => by rw [HE.out] at h; cases h⟩, HST.out.chg⟩
set_option maxHeartbeats 4000000 in
theorem refSame_calls (A A' : Option Addr) (c c' : Nat) (l l' : Lv) (w : World) (hin : LvIn w w.heap.size A c l) (hin' : LvIn w w.heap.size A' c' l') (hsz : sz l ≤ 5000) :
    Calls Try.prog 71 #[lvV A c l, lvV A' c' l'] w fun e w' => e = .returned (.bool (simB l l')) ∧ Below w.heap.size w w' := by
  have HIN := Aside0.mk hin
  have HIN' := Aside0.mk hin'
  clear hin hin'
  unfold lvV
  go_enter Try.func71, Try.ntmps71
  obtain ⟨w3, hw3⟩ : ∃ w3, w3 = (((w.alloc (.cells #[.int .i64 l.kind, .int .i64 l.num, .slice A l.kids.length c] 25 (0, 0))).alloc (.cells #[.int .i64 l'.kind, .int .i64 l'.num, .slice A' l'.kids.length c'] 25 (0, 0))).alloc (.cells #[.int .i64 0] 3 (0, 0))) := ⟨_, rfl⟩
  have hnew : NumAt w3 (w.heap.size + 1 + 1) ((0 : Nat) : Int) := by
    have := blk_new ((w.alloc (.cells #[.int .i64 l.kind, .int .i64 l.num, .slice A l.kids.length c] 25 (0, 0))).alloc (.cells #[.int .i64 l'.kind, .int .i64 l'.num, .slice A' l'.kids.length c'] 25 (0, 0))) (.cells #[.int .i64 0] 3 (0, 0))
    rw [hw3]
    simpa [NumAt] using this
  have hb3 : Below w.heap.size w w3 := by rw [hw3]; exact below_alloc (below_alloc (below_alloc (Below.refl _ _) _) _) _
  have HNEW := Aside0.mk hnew
  have HB3 := Aside0.mk hb3
  have HW3 := Aside0.mk hw3
  clear hnew hb3 hw3
  go_wp2_with (go_at_call 102; go_must (rw [← HW3.out]; refine (ref_same _ l (Nat.lt_succ_self _) l' A A' c c' 0 (w.heap.size + 1 + 1) w3 (LvS.mono (HIN.out.stay HB3.out) fun k hk _ => by omega) (LvS.mono (HIN'.out.stay HB3.out) fun k hk _ => by omega) HNEW.out (by omega)).mono ?_; rintro e w1 ⟨rfl, -, hc⟩; have HB := Aside0.mk (Chg.trans_below HB3.out hc (fun _ e => by omega) HB3.out.size); clear hc))
  go_ret
  exact ⟨rfl, HB.out⟩
end Go.Proofs.Ytdboloabpjmgaaa

/-! SlB -/
namespace Go.Proofs.Ytdboloabpjmgaaa
open Go.RowKit Go.Proofs.YtdboloabpjmgaaaW.PrintWords Go.RegionInvYtdboloabpjmgaaa Go.RegionEYtdboloabpjmgaaa

def slB (a b : Lv) : Bool := simB a b || !soundB b
def OKL (a _b : Lv) : Prop := sz a ≤ 5000
set_option maxHeartbeats 4000000 in
theorem slevel_calls (A B : Option Addr) (c c' : Nat) (a b : Lv) (w : World) (ho : OKL a b) (ha : LvIn w w.heap.size A c a) (hb : LvIn w w.heap.size B c' b) :
    Calls Try.prog 29 #[lvV A c a, lvV B c' b] w fun e w' => e = .returned (.bool (slB a b)) ∧ Below w.heap.size w w' := by
  have HA := Aside0.mk ha
  have HC := Aside0.mk hb
  have HO := Aside0.mk (show sz a ≤ 5000 from ho)
  have hla : a.kids.length ≤ 9223372036854775807 := by have := ha.len; omega
  have hlb : b.kids.length ≤ 9223372036854775807 := by have := hb.len; omega
  have HW := Aside0.mk (show Below w.heap.size w (bx2 w A B c c' a b) from below_alloc (below_alloc (Below.refl _ _) _) _)
  have HY := Aside0.mk (show (bx2 w A B c c' a b).heap[w.heap.size + 1]? = some (.cells #[.int .i64 b.kind, .int .i64 b.num, .slice B b.kids.length c'] 25 (0, 0)) from box1 w _ _)
  clear ha hb ho
  unfold lvV
  go_enter Try.func29, Try.ntmps29
  cases hs : simB a b with
  | true =>
    have HS := Aside0.mk hs
    have HE := Aside0.mk (show slB a b = true by unfold slB; rw [hs]; rfl)
    clear hs
    go_wp2_with (go_at_call 71; go_must (refine (refSame_calls A B c c' a b (bx2 w A B c c' a b) (LvS.all (HA.out.stay HW.out)) (LvS.all (HC.out.stay HW.out)) HO.out).mono ?_; rintro e w1 ⟨rfl, hb⟩; rw [HS.out]; have HB1 := Aside0.mk (below_then HW.out HW.out.size hb); clear hb))
    go_ret
    rw [HE.out]
    exact ⟨rfl, HB1.out⟩
  | false =>
    have HS := Aside0.mk hs
    have HE := Aside0.mk (show slB a b = !soundB b by unfold slB; rw [hs]; rfl)
    clear hs
    go_wp2_with (first
      | (go_at_call 71; go_must (refine (refSame_calls A B c c' a b (bx2 w A B c c' a b) (LvS.all (HA.out.stay HW.out)) (LvS.all (HC.out.stay HW.out)) HO.out).mono ?_; rintro e w1 ⟨rfl, hb⟩; rw [HS.out]; have HB1 := Aside0.mk (below_then HW.out HW.out.size hb); obtain ⟨p0, p1, p2, -, -, -⟩ := row3 (blk_below HY.out hb); clear hb))
      | (go_at_call 72; go_must (refine (refSound_calls B c' b w1 (LvS.all (HC.out.stay HB1.out))).mono ?_; rintro e w2 ⟨rfl, hb⟩; have HB2 := Aside0.mk (below_then HB1.out HB1.out.size hb); clear hb)))
    go_ret
    rw [HE.out]
    exact ⟨rfl, HB2.out⟩
end Go.Proofs.Ytdboloabpjmgaaa

/-! SeW -/
namespace Go.Proofs.Ytdboloabpjmgaaa
open Go.RowKit Go.Proofs.YtdboloabpjmgaaaW.PrintWords Go.RegionInvYtdboloabpjmgaaa Go.RegionEYtdboloabpjmgaaa

theorem drop_lv {ks : List Lv} {i : Nat} {x : Lv} (h : ks[i]? = some x) : ks.drop i = x :: ks.drop (i + 1) := by
  obtain ⟨hl, rfl⟩ := List.getElem?_eq_some_iff.1 h
  exact List.drop_eq_getElem_cons hl
theorem kind_leaf {t : Tm} (h : t.kind = 1 ∨ t.kind = 2 ∨ t.kind = 7) : nK t = 0 ∧ leafR t = false := by
  have ha : arZ t.kind = 0 := if_pos h
  refine ⟨?_, ?_⟩
  · unfold nK; rw [ha]; split <;> rfl
  · unfold leafR; rw [ha]; exact decide_eq_false (by omega)
theorem leafR_leaf {t : Tm} (h : leafT t = true) (h1 : t.kind ≠ 1) (h2 : t.kind ≠ 2) (h7 : t.kind ≠ 7) : leafR t = true := by
  have h0 := leaf_nK h
  unfold leafR
  unfold nK at h0
  have ha : arZ t.kind ≠ 0 := by
    unfold arZ
    rw [if_neg (by omega)]
    split
    · omega
    · split <;> omega
  refine decide_eq_true ?_
  split at h0
  · exact .inr (by assumption)
  · exact .inl (by omega)
theorem nK_same {t u : Tm} (hk : t.kind = u.kind) (ht : leafT t = false) (hu : leafT u = false) : nK t = nK u := by
  have h1 := nK_ar (leaf_nK' ht)
  have h2 := nK_ar (leaf_nK' hu)
  rw [hk] at h1
  omega
theorem below_all {w W : World} {p : Pl} {t : Tm} (h : TmIn w w.heap.size p t) (hb : Below w.heap.size w W) : TmIn W W.heap.size p t := TmS.all (TmIn.stay h hb)
end Go.Proofs.Ytdboloabpjmgaaa

/-! NrRl -/
namespace Go.Proofs.Ytdboloabpjmgaaa
open Go.RowKit Go.Proofs.YtdboloabpjmgaaaW.PrintWords Go.RegionInvYtdboloabpjmgaaa Go.RegionEYtdboloabpjmgaaa
set_option linter.unusedVariables false

theorem slevel_at (A B : Option Addr) (c c' m m' : Nat) (k n k' n' : Int) (a b : Lv) (w : World) (hk : a.kind = k) (hn : a.num = n) (hm : a.kids.length = m) (hk' : b.kind = k') (hn' : b.num = n') (hm' : b.kids.length = m') (ho : OKL a b) (ha : LvIn w w.heap.size A c a) (hb : LvIn w w.heap.size B c' b) :
    Calls Try.prog 29 #[.agg #[.int .i64 k, .int .i64 n, .slice A m c], .agg #[.int .i64 k', .int .i64 n', .slice B m' c']] w fun e w' => e = .returned (.bool (slB a b)) ∧ Below w.heap.size w w' := by
  subst hk hn hm hk' hn' hm'
  exact slevel_calls A B c c' a b w ho ha hb

def nrl_ops : List Oper := [
  { dst := some 59, op := Go.Op.fieldAddr 28 (Go.Operand.tmp 2) 4, type := 0, pos := "law.go:78", after := #[], guard := none },
  { dst := some 60, op := Go.Op.load 23 (Go.Operand.tmp 59), type := 23, pos := "law.go:78", after := #[{ on := 0, ground := Go.Ground.data }], guard := none },
  { dst := some 61, op := Go.Op.move (Go.Operand.tmp 5), type := 3, pos := "law.go:78", after := #[], guard := none },
  { dst := some 62, op := Go.Op.indexAddr 23 (Go.Operand.tmp 60) (Go.Operand.tmp 61), type := 0, pos := "law.go:78", after := #[{ on := 1, ground := Go.Ground.data }, { on := 2, ground := Go.Ground.data }], guard := none },
  { dst := some 63, op := Go.Op.load 25 (Go.Operand.tmp 62), type := 25, pos := "law.go:78", after := #[{ on := 3, ground := Go.Ground.data }], guard := none },
  { dst := some 64, op := Go.Op.fieldAddr 28 (Go.Operand.tmp 3) 4, type := 0, pos := "law.go:78", after := #[], guard := none },
  { dst := some 65, op := Go.Op.load 23 (Go.Operand.tmp 64), type := 23, pos := "law.go:78", after := #[{ on := 5, ground := Go.Ground.data }], guard := none },
  { dst := some 66, op := Go.Op.move (Go.Operand.tmp 5), type := 3, pos := "law.go:78", after := #[], guard := none },
  { dst := some 67, op := Go.Op.indexAddr 23 (Go.Operand.tmp 65) (Go.Operand.tmp 66), type := 0, pos := "law.go:78", after := #[{ on := 6, ground := Go.Ground.data }, { on := 7, ground := Go.Ground.data }], guard := none },
  { dst := some 68, op := Go.Op.load 25 (Go.Operand.tmp 67), type := 25, pos := "law.go:78", after := #[{ on := 8, ground := Go.Ground.data }], guard := none },
  { dst := some 69, op := Go.Op.call { callee := Go.Callee.value (Go.Operand.func 29), args := #[Go.Operand.tmp 63, Go.Operand.tmp 68], argTypes := #[25, 25] }, type := 4, pos := "law.go:78", after := #[{ on := 4, ground := Go.Ground.data }, { on := 9, ground := Go.Ground.data }], guard := none },
  { dst := some 70, op := Go.Op.unOp Go.UnOp.not 4 (Go.Operand.tmp 69), type := 4, pos := "law.go:78", after := #[{ on := 10, ground := Go.Ground.data }], guard := none }]
def nrl_F (w0 : World) (g h i : Nat) (p q : Pl) (t u : Tm) (ga oa gd od m1 : Nat) (xk xn yk yn : Int) (A1 A2 : Option Addr) (n1 c1 n2 c2 : Nat) (r : Bool) : Nat → (Nat → Value) → Value → World → (Nat → Prop) → Prop := fun rix => match rix with
  | 0 => fun _ v _ _ => v = .pointer (some ⟨g, 6, none⟩)
  | 1 => fun _ v _ _ => v = .slice (some ⟨ga, oa, none⟩) m1 p.d
  | 2 => fun _ v _ _ => v = .int .i64 i
  | 3 => fun _ v _ _ => v = .pointer (some ⟨ga, oa + i * 3, none⟩)
  | 4 => fun _ v _ _ => v = .agg #[.int .i64 xk, .int .i64 xn, .slice A1 n1 c1]
  | 5 => fun _ v _ _ => v = .pointer (some ⟨h, 6, none⟩)
  | 6 => fun _ v _ _ => v = .slice (some ⟨gd, od, none⟩) m1 q.d
  | 7 => fun _ v _ _ => v = .int .i64 i
  | 8 => fun _ v _ _ => v = .pointer (some ⟨gd, od + i * 3, none⟩)
  | 9 => fun _ v _ _ => v = .agg #[.int .i64 yk, .int .i64 yn, .slice A2 n2 c2]
  | 10 => fun _ v _ _ => v = .bool r
  | 11 => fun _ v _ _ => v = .bool (!r)
  | _ => fun _ _ _ _ => True
def nrl_C : Nat → List Nat := fun rix => match rix with
  | _ => []
theorem nrl_nw2 : nwB nrl_ops.toArray 2 = true := by kernel_rfl
theorem nrl_nw3 : nwB nrl_ops.toArray 3 = true := by kernel_rfl
theorem nrl_nw5 : nwB nrl_ops.toArray 5 = true := by kernel_rfl
set_option maxRecDepth 100000 in
set_option maxHeartbeats 8000000 in
theorem nrl_obs (w0 : World) (g h i : Nat) (p q : Pl) (t u : Tm) (ga oa gd od m1 : Nat) (xk xn yk yn : Int) (A1 A2 : Option Addr) (n1 c1 n2 c2 : Nat) (r : Bool) (hx2 : w0.heap[g]? = some (tmO p t)) (hx3 : w0.heap[h]? = some (tmO q u)) (hpB : p.B = some ⟨ga, oa, none⟩) (hqB : q.B = some ⟨gd, od, none⟩) (hm1 : t.ls.length = m1) (hm2 : u.ls.length = m1) (hga : ga < w0.heap.size) (hgd : gd < w0.heap.size) (him : i < m1) (hm9 : m1 ≤ 9223372036854775807) (ca0 : w0.cell? ⟨ga, oa + i * 3, none⟩ = some (.int .i64 xk)) (ca1 : w0.cell? ⟨ga, oa + i * 3 + 1, none⟩ = some (.int .i64 xn)) (ca2 : w0.cell? ⟨ga, oa + i * 3 + 2, none⟩ = some (.slice A1 n1 c1)) (cb0 : w0.cell? ⟨gd, od + i * 3, none⟩ = some (.int .i64 yk)) (cb1 : w0.cell? ⟨gd, od + i * 3 + 1, none⟩ = some (.int .i64 yn)) (cb2 : w0.cell? ⟨gd, od + i * 3 + 2, none⟩ = some (.slice A2 n2 c2)) (hEQ : ∀ w, Below w0.heap.size w0 w → Calls Try.prog 29 #[.agg #[.int .i64 xk, .int .i64 xn, .slice A1 n1 c1], .agg #[.int .i64 yk, .int .i64 yn, .slice A2 n2 c2]] w fun e w' => e = .returned (.bool r) ∧ Below w.heap.size w w') (Q : Exit → Act → World → Prop) (a0 : Act) (hi2 : a0.tmps.getD 2 undef = .pointer (some ⟨g, 0, none⟩)) (hi3 : a0.tmps.getD 3 undef = .pointer (some ⟨h, 0, none⟩)) (hi5 : a0.tmps.getD 5 undef = .int .i64 i) :
    ObsE Try.prog nrl_ops.toArray Q (est2 0 0 (fun _ => False) (fun _ => False)) nrl_C (nrl_F w0 g h i p q t u ga oa gd od m1 xk xn yk yn A1 A2 n1 c1 n2 c2 r) a0 w0 nrl_ops.toArray.toList 0 := by
  have nw2 := nrl_nw2
  have nw3 := nrl_nw3
  have nw5 := nrl_nw5
  refine ⟨?_, ?_, ?_, ?_, ?_, ?_, ?_, ?_, ?_, ?_, ?_, ?_, trivial⟩
  · refine ⟨⟨fun τ => stableE_det _, leans_not⟩, ?_⟩
    intro a w O hk
    have e2 : a.eval (.tmp 2) = .pointer (some ⟨g, 0, none⟩) := (hk.init 2 (initialB_of_nw nw2)).trans hi2
    have x2 := hk.world.still hx2 (fun ⟨_, h⟩ => h.elim And.right And.right)
    have x3 := hk.world.still hx3 (fun ⟨_, h⟩ => h.elim And.right And.right)
    have hcc : ∀ j, w.cell? ⟨ga, j, none⟩ = w0.cell? ⟨ga, j, none⟩ := fun j => cell_same ((hk.world.below (fun k ⟨_, h⟩ => h.elim (fun h => h.2.elim) fun h => h.2.elim) (Nat.le_refl _)).block _ hga)
    have hcd : ∀ j, w.cell? ⟨gd, j, none⟩ = w0.cell? ⟨gd, j, none⟩ := fun j => cell_same ((hk.world.below (fun k ⟨_, h⟩ => h.elim (fun h => h.2.elim) fun h => h.2.elim) (Nat.le_refl _)).block _ hgd)
    have hbl : Below w0.heap.size w0 w := (hk.world.below (fun k ⟨_, h⟩ => h.elim (fun h => h.2.elim) fun h => h.2.elim) (Nat.le_refl _))
    exact obE_run (wanted_none rfl) (by unfold execOp; simp only []; rw [e2]; go_simp) rfl
  · refine ⟨⟨fun τ => stableE_det _, leans_not⟩, ?_⟩
    intro a w O hk
    have e59 : a.eval (.tmp 59) = .pointer (some ⟨g, 6, none⟩) := hk.fact 0 _ 59 rfl rfl rfl rfl
    have x2 := hk.world.still hx2 (fun ⟨_, h⟩ => h.elim And.right And.right)
    have x3 := hk.world.still hx3 (fun ⟨_, h⟩ => h.elim And.right And.right)
    have hcc : ∀ j, w.cell? ⟨ga, j, none⟩ = w0.cell? ⟨ga, j, none⟩ := fun j => cell_same ((hk.world.below (fun k ⟨_, h⟩ => h.elim (fun h => h.2.elim) fun h => h.2.elim) (Nat.le_refl _)).block _ hga)
    have hcd : ∀ j, w.cell? ⟨gd, j, none⟩ = w0.cell? ⟨gd, j, none⟩ := fun j => cell_same ((hk.world.below (fun k ⟨_, h⟩ => h.elim (fun h => h.2.elim) fun h => h.2.elim) (Nat.le_refl _)).block _ hgd)
    have hbl : Below w0.heap.size w0 w := (hk.world.below (fun k ⟨_, h⟩ => h.elim (fun h => h.2.elim) fun h => h.2.elim) (Nat.le_refl _))
    obtain ⟨p0, p1, p2, p3, p4, p5, p6, p7⟩ := row8 x2
    rw [hpB, hm1] at p6
    exact obE_run (wanted_none rfl) (by unfold execOp; simp only []; rw [e59]; go_simp) rfl
  · refine ⟨⟨fun τ => stableE_det _, leans_not⟩, ?_⟩
    intro a w O hk
    have e5 : a.eval (.tmp 5) = .int .i64 i := (hk.init 5 (initialB_of_nw nw5)).trans hi5
    exact toE (ob_move rfl e5 (wanted_none rfl) rfl)
  · refine ⟨⟨fun τ => stableE_det _, leans_not⟩, ?_⟩
    intro a w O hk
    have e60 : a.eval (.tmp 60) = .slice (some ⟨ga, oa, none⟩) m1 p.d := hk.fact 1 _ 60 rfl rfl rfl rfl
    have e61 : a.eval (.tmp 61) = .int .i64 i := hk.fact 2 _ 61 rfl rfl rfl rfl
    have x2 := hk.world.still hx2 (fun ⟨_, h⟩ => h.elim And.right And.right)
    have x3 := hk.world.still hx3 (fun ⟨_, h⟩ => h.elim And.right And.right)
    have hcc : ∀ j, w.cell? ⟨ga, j, none⟩ = w0.cell? ⟨ga, j, none⟩ := fun j => cell_same ((hk.world.below (fun k ⟨_, h⟩ => h.elim (fun h => h.2.elim) fun h => h.2.elim) (Nat.le_refl _)).block _ hga)
    have hcd : ∀ j, w.cell? ⟨gd, j, none⟩ = w0.cell? ⟨gd, j, none⟩ := fun j => cell_same ((hk.world.below (fun k ⟨_, h⟩ => h.elim (fun h => h.2.elim) fun h => h.2.elim) (Nat.le_refl _)).block _ hgd)
    have hbl : Below w0.heap.size w0 w := (hk.world.below (fun k ⟨_, h⟩ => h.elim (fun h => h.2.elim) fun h => h.2.elim) (Nat.le_refl _))
    exact obE_run (wanted_none rfl) (by unfold execOp; simp only []; rw [e60, e61]; go_simp) rfl
  · refine ⟨⟨fun τ => stableE_det _, leans_not⟩, ?_⟩
    intro a w O hk
    have e62 : a.eval (.tmp 62) = .pointer (some ⟨ga, oa + i * 3, none⟩) := hk.fact 3 _ 62 rfl rfl rfl rfl
    have x2 := hk.world.still hx2 (fun ⟨_, h⟩ => h.elim And.right And.right)
    have x3 := hk.world.still hx3 (fun ⟨_, h⟩ => h.elim And.right And.right)
    have hcc : ∀ j, w.cell? ⟨ga, j, none⟩ = w0.cell? ⟨ga, j, none⟩ := fun j => cell_same ((hk.world.below (fun k ⟨_, h⟩ => h.elim (fun h => h.2.elim) fun h => h.2.elim) (Nat.le_refl _)).block _ hga)
    have hcd : ∀ j, w.cell? ⟨gd, j, none⟩ = w0.cell? ⟨gd, j, none⟩ := fun j => cell_same ((hk.world.below (fun k ⟨_, h⟩ => h.elim (fun h => h.2.elim) fun h => h.2.elim) (Nat.le_refl _)).block _ hgd)
    have hbl : Below w0.heap.size w0 w := (hk.world.below (fun k ⟨_, h⟩ => h.elim (fun h => h.2.elim) fun h => h.2.elim) (Nat.le_refl _))
    have r0 := (hcc _).trans ca0
    have r1 := (hcc _).trans ca1
    have r2 := (hcc _).trans ca2
    exact obE_run (wanted_none rfl) (by unfold execOp; simp only []; rw [e62]; go_simp) rfl
  · refine ⟨⟨fun τ => stableE_det _, leans_not⟩, ?_⟩
    intro a w O hk
    have e3 : a.eval (.tmp 3) = .pointer (some ⟨h, 0, none⟩) := (hk.init 3 (initialB_of_nw nw3)).trans hi3
    have x2 := hk.world.still hx2 (fun ⟨_, h⟩ => h.elim And.right And.right)
    have x3 := hk.world.still hx3 (fun ⟨_, h⟩ => h.elim And.right And.right)
    have hcc : ∀ j, w.cell? ⟨ga, j, none⟩ = w0.cell? ⟨ga, j, none⟩ := fun j => cell_same ((hk.world.below (fun k ⟨_, h⟩ => h.elim (fun h => h.2.elim) fun h => h.2.elim) (Nat.le_refl _)).block _ hga)
    have hcd : ∀ j, w.cell? ⟨gd, j, none⟩ = w0.cell? ⟨gd, j, none⟩ := fun j => cell_same ((hk.world.below (fun k ⟨_, h⟩ => h.elim (fun h => h.2.elim) fun h => h.2.elim) (Nat.le_refl _)).block _ hgd)
    have hbl : Below w0.heap.size w0 w := (hk.world.below (fun k ⟨_, h⟩ => h.elim (fun h => h.2.elim) fun h => h.2.elim) (Nat.le_refl _))
    exact obE_run (wanted_none rfl) (by unfold execOp; simp only []; rw [e3]; go_simp) rfl
  · refine ⟨⟨fun τ => stableE_det _, leans_not⟩, ?_⟩
    intro a w O hk
    have e64 : a.eval (.tmp 64) = .pointer (some ⟨h, 6, none⟩) := hk.fact 5 _ 64 rfl rfl rfl rfl
    have x2 := hk.world.still hx2 (fun ⟨_, h⟩ => h.elim And.right And.right)
    have x3 := hk.world.still hx3 (fun ⟨_, h⟩ => h.elim And.right And.right)
    have hcc : ∀ j, w.cell? ⟨ga, j, none⟩ = w0.cell? ⟨ga, j, none⟩ := fun j => cell_same ((hk.world.below (fun k ⟨_, h⟩ => h.elim (fun h => h.2.elim) fun h => h.2.elim) (Nat.le_refl _)).block _ hga)
    have hcd : ∀ j, w.cell? ⟨gd, j, none⟩ = w0.cell? ⟨gd, j, none⟩ := fun j => cell_same ((hk.world.below (fun k ⟨_, h⟩ => h.elim (fun h => h.2.elim) fun h => h.2.elim) (Nat.le_refl _)).block _ hgd)
    have hbl : Below w0.heap.size w0 w := (hk.world.below (fun k ⟨_, h⟩ => h.elim (fun h => h.2.elim) fun h => h.2.elim) (Nat.le_refl _))
    obtain ⟨p0, p1, p2, p3, p4, p5, p6, p7⟩ := row8 x3
    rw [hqB, hm2] at p6
    exact obE_run (wanted_none rfl) (by unfold execOp; simp only []; rw [e64]; go_simp) rfl
  · refine ⟨⟨fun τ => stableE_det _, leans_not⟩, ?_⟩
    intro a w O hk
    have e5 : a.eval (.tmp 5) = .int .i64 i := (hk.init 5 (initialB_of_nw nw5)).trans hi5
    exact toE (ob_move rfl e5 (wanted_none rfl) rfl)
  · refine ⟨⟨fun τ => stableE_det _, leans_not⟩, ?_⟩
    intro a w O hk
    have e65 : a.eval (.tmp 65) = .slice (some ⟨gd, od, none⟩) m1 q.d := hk.fact 6 _ 65 rfl rfl rfl rfl
    have e66 : a.eval (.tmp 66) = .int .i64 i := hk.fact 7 _ 66 rfl rfl rfl rfl
    have x2 := hk.world.still hx2 (fun ⟨_, h⟩ => h.elim And.right And.right)
    have x3 := hk.world.still hx3 (fun ⟨_, h⟩ => h.elim And.right And.right)
    have hcc : ∀ j, w.cell? ⟨ga, j, none⟩ = w0.cell? ⟨ga, j, none⟩ := fun j => cell_same ((hk.world.below (fun k ⟨_, h⟩ => h.elim (fun h => h.2.elim) fun h => h.2.elim) (Nat.le_refl _)).block _ hga)
    have hcd : ∀ j, w.cell? ⟨gd, j, none⟩ = w0.cell? ⟨gd, j, none⟩ := fun j => cell_same ((hk.world.below (fun k ⟨_, h⟩ => h.elim (fun h => h.2.elim) fun h => h.2.elim) (Nat.le_refl _)).block _ hgd)
    have hbl : Below w0.heap.size w0 w := (hk.world.below (fun k ⟨_, h⟩ => h.elim (fun h => h.2.elim) fun h => h.2.elim) (Nat.le_refl _))
    exact obE_run (wanted_none rfl) (by unfold execOp; simp only []; rw [e65, e66]; go_simp) rfl
  · refine ⟨⟨fun τ => stableE_det _, leans_not⟩, ?_⟩
    intro a w O hk
    have e67 : a.eval (.tmp 67) = .pointer (some ⟨gd, od + i * 3, none⟩) := hk.fact 8 _ 67 rfl rfl rfl rfl
    have x2 := hk.world.still hx2 (fun ⟨_, h⟩ => h.elim And.right And.right)
    have x3 := hk.world.still hx3 (fun ⟨_, h⟩ => h.elim And.right And.right)
    have hcc : ∀ j, w.cell? ⟨ga, j, none⟩ = w0.cell? ⟨ga, j, none⟩ := fun j => cell_same ((hk.world.below (fun k ⟨_, h⟩ => h.elim (fun h => h.2.elim) fun h => h.2.elim) (Nat.le_refl _)).block _ hga)
    have hcd : ∀ j, w.cell? ⟨gd, j, none⟩ = w0.cell? ⟨gd, j, none⟩ := fun j => cell_same ((hk.world.below (fun k ⟨_, h⟩ => h.elim (fun h => h.2.elim) fun h => h.2.elim) (Nat.le_refl _)).block _ hgd)
    have hbl : Below w0.heap.size w0 w := (hk.world.below (fun k ⟨_, h⟩ => h.elim (fun h => h.2.elim) fun h => h.2.elim) (Nat.le_refl _))
    have r0 := (hcd _).trans cb0
    have r1 := (hcd _).trans cb1
    have r2 := (hcd _).trans cb2
    exact obE_run (wanted_none rfl) (by unfold execOp; simp only []; rw [e67]; go_simp) rfl
  · refine ⟨⟨fun τ => stableE_det _, leans_not⟩, ?_⟩
    intro a w O hk
    have e63 : a.eval (.tmp 63) = .agg #[.int .i64 xk, .int .i64 xn, .slice A1 n1 c1] := hk.fact 4 _ 63 rfl rfl rfl rfl
    have e68 : a.eval (.tmp 68) = .agg #[.int .i64 yk, .int .i64 yn, .slice A2 n2 c2] := hk.fact 9 _ 68 rfl rfl rfl rfl
    have x2 := hk.world.still hx2 (fun ⟨_, h⟩ => h.elim And.right And.right)
    have x3 := hk.world.still hx3 (fun ⟨_, h⟩ => h.elim And.right And.right)
    have hcc : ∀ j, w.cell? ⟨ga, j, none⟩ = w0.cell? ⟨ga, j, none⟩ := fun j => cell_same ((hk.world.below (fun k ⟨_, h⟩ => h.elim (fun h => h.2.elim) fun h => h.2.elim) (Nat.le_refl _)).block _ hga)
    have hcd : ∀ j, w.cell? ⟨gd, j, none⟩ = w0.cell? ⟨gd, j, none⟩ := fun j => cell_same ((hk.world.below (fun k ⟨_, h⟩ => h.elim (fun h => h.2.elim) fun h => h.2.elim) (Nat.le_refl _)).block _ hgd)
    have hbl : Below w0.heap.size w0 w := (hk.world.below (fun k ⟨_, h⟩ => h.elim (fun h => h.2.elim) fun h => h.2.elim) (Nat.le_refl _))
    exact obE_callV #[.agg #[.int .i64 xk, .int .i64 xn, .slice A1 n1 c1], .agg #[.int .i64 yk, .int .i64 yn, .slice A2 n2 c2]] rfl rfl rfl rfl (by simp only [List.map_cons, List.map_nil]; rw [e63, e68]) (wanted_none rfl) (hEQ w hbl)
  · refine ⟨⟨fun τ => stableE_det _, leans_not⟩, ?_⟩
    intro a w O hk
    have e69 : a.eval (.tmp 69) = .bool r := hk.fact 10 _ 69 rfl rfl rfl rfl
    have x2 := hk.world.still hx2 (fun ⟨_, h⟩ => h.elim And.right And.right)
    have x3 := hk.world.still hx3 (fun ⟨_, h⟩ => h.elim And.right And.right)
    have hcc : ∀ j, w.cell? ⟨ga, j, none⟩ = w0.cell? ⟨ga, j, none⟩ := fun j => cell_same ((hk.world.below (fun k ⟨_, h⟩ => h.elim (fun h => h.2.elim) fun h => h.2.elim) (Nat.le_refl _)).block _ hga)
    have hcd : ∀ j, w.cell? ⟨gd, j, none⟩ = w0.cell? ⟨gd, j, none⟩ := fun j => cell_same ((hk.world.below (fun k ⟨_, h⟩ => h.elim (fun h => h.2.elim) fun h => h.2.elim) (Nat.le_refl _)).block _ hgd)
    have hbl : Below w0.heap.size w0 w := (hk.world.below (fun k ⟨_, h⟩ => h.elim (fun h => h.2.elim) fun h => h.2.elim) (Nat.le_refl _))
    exact obE_run (wanted_none rfl) (by unfold execOp; simp only []; rw [e69]; go_simp) rfl
set_option maxRecDepth 100000 in
set_option maxHeartbeats 8000000 in
theorem nrl_region {Q : Exit → Act → World → Prop} {id : Nat} (w0 : World) (g h i : Nat) (p q : Pl) (t u : Tm) (ga oa gd od m1 : Nat) (xk xn yk yn : Int) (A1 A2 : Option Addr) (n1 c1 n2 c2 : Nat) (r : Bool) {s0 s1 s4 s6 s7 s8 s9 s10 s11 s12 s13 s14 s15 s16 s17 s18 s19 s20 s21 s22 s23 s24 s25 s26 s27 s28 s29 s30 s31 s32 s33 s34 s35 s36 s37 s38 s39 s40 s41 s42 s43 s44 s45 s46 s47 s48 s49 s50 s51 s52 s53 s54 s55 s56 s57 s58 s59 s60 s61 s62 s63 s64 s65 s66 s67 s68 s69 s70 s71 s72 s73 s74 s75 s76 s77 s78 s79 s80 s81 s82 s83 s84 s85 s86 s87 s88 s89 s90 : Value} (hx2 : w0.heap[g]? = some (tmO p t)) (hx3 : w0.heap[h]? = some (tmO q u)) (hpB : p.B = some ⟨ga, oa, none⟩) (hqB : q.B = some ⟨gd, od, none⟩) (hm1 : t.ls.length = m1) (hm2 : u.ls.length = m1) (hga : ga < w0.heap.size) (hgd : gd < w0.heap.size) (him : i < m1) (hm9 : m1 ≤ 9223372036854775807) (ca0 : w0.cell? ⟨ga, oa + i * 3, none⟩ = some (.int .i64 xk)) (ca1 : w0.cell? ⟨ga, oa + i * 3 + 1, none⟩ = some (.int .i64 xn)) (ca2 : w0.cell? ⟨ga, oa + i * 3 + 2, none⟩ = some (.slice A1 n1 c1)) (cb0 : w0.cell? ⟨gd, od + i * 3, none⟩ = some (.int .i64 yk)) (cb1 : w0.cell? ⟨gd, od + i * 3 + 1, none⟩ = some (.int .i64 yn)) (cb2 : w0.cell? ⟨gd, od + i * 3 + 2, none⟩ = some (.slice A2 n2 c2)) (hEQ : ∀ w, Below w0.heap.size w0 w → Calls Try.prog 29 #[.agg #[.int .i64 xk, .int .i64 xn, .slice A1 n1 c1], .agg #[.int .i64 yk, .int .i64 yn, .slice A2 n2 c2]] w fun e w' => e = .returned (.bool r) ∧ Below w.heap.size w w')
    (hend : ∀ (w' : World), Chg (fun k => False ∨ False) w0 w' → Q .normal { tmps := (s0 :: s1 :: (.pointer (some ⟨g, 0, none⟩)) :: (.pointer (some ⟨h, 0, none⟩)) :: s4 :: (.int .i64 i) :: s6 :: s7 :: s8 :: s9 :: s10 :: s11 :: s12 :: s13 :: s14 :: s15 :: s16 :: s17 :: s18 :: s19 :: s20 :: s21 :: s22 :: s23 :: s24 :: s25 :: s26 :: s27 :: s28 :: s29 :: s30 :: s31 :: s32 :: s33 :: s34 :: s35 :: s36 :: s37 :: s38 :: s39 :: s40 :: s41 :: s42 :: s43 :: s44 :: s45 :: s46 :: s47 :: s48 :: s49 :: s50 :: s51 :: s52 :: s53 :: s54 :: s55 :: s56 :: s57 :: s58 :: (.pointer (some ⟨g, 6, none⟩)) :: (.slice (some ⟨ga, oa, none⟩) m1 p.d) :: (.int .i64 i) :: (.pointer (some ⟨ga, oa + i * 3, none⟩)) :: (.agg #[.int .i64 xk, .int .i64 xn, .slice A1 n1 c1]) :: (.pointer (some ⟨h, 6, none⟩)) :: (.slice (some ⟨gd, od, none⟩) m1 q.d) :: (.int .i64 i) :: (.pointer (some ⟨gd, od + i * 3, none⟩)) :: (.agg #[.int .i64 yk, .int .i64 yn, .slice A2 n2 c2]) :: (.bool r) :: (.bool (!r)) :: s71 :: s72 :: s73 :: s74 :: s75 :: s76 :: s77 :: s78 :: s79 :: s80 :: s81 :: s82 :: s83 :: s84 :: s85 :: s86 :: s87 :: s88 :: s89 :: s90 :: [] : List Value).toArray, defers := [] } w') :
    (Code.region id nrl_ops.toArray true).wp Try.prog Q { tmps := (s0 :: s1 :: (.pointer (some ⟨g, 0, none⟩)) :: (.pointer (some ⟨h, 0, none⟩)) :: s4 :: (.int .i64 i) :: s6 :: s7 :: s8 :: s9 :: s10 :: s11 :: s12 :: s13 :: s14 :: s15 :: s16 :: s17 :: s18 :: s19 :: s20 :: s21 :: s22 :: s23 :: s24 :: s25 :: s26 :: s27 :: s28 :: s29 :: s30 :: s31 :: s32 :: s33 :: s34 :: s35 :: s36 :: s37 :: s38 :: s39 :: s40 :: s41 :: s42 :: s43 :: s44 :: s45 :: s46 :: s47 :: s48 :: s49 :: s50 :: s51 :: s52 :: s53 :: s54 :: s55 :: s56 :: s57 :: s58 :: s59 :: s60 :: s61 :: s62 :: s63 :: s64 :: s65 :: s66 :: s67 :: s68 :: s69 :: s70 :: s71 :: s72 :: s73 :: s74 :: s75 :: s76 :: s77 :: s78 :: s79 :: s80 :: s81 :: s82 :: s83 :: s84 :: s85 :: s86 :: s87 :: s88 :: s89 :: s90 :: [] : List Value).toArray, defers := [] } w0 := by
  refine wp_region_est (by kernel_rfl) (est2 0 0 (fun _ => False) (fun _ => False)) nrl_C (nrl_F w0 g h i p q t u ga oa gd od m1 xk xn yk yn A1 A2 n1 c1 n2 c2 r) (est2_dis (fun _ h _ => h)) (est2_range (fun _ h => h.elim) (fun _ h => h.elim)) (by rfl) (by kernel_rfl) (nrl_obs w0.drew g h i p q t u ga oa gd od m1 xk xn yk yn A1 A2 n1 c1 n2 c2 r hx2 hx3 hpB hqB hm1 hm2 hga hgd him hm9 ca0 ca1 ca2 cb0 cb1 cb2 (fun w h => hEQ w (below_undrew h)) _ _ rfl rfl rfl) ?_
  intro a w' O hd hs hb hf hf2 ha hsame
  have hl := slots_eq (ops := nrl_ops.toArray) [(59, .pointer (some ⟨g, 6, none⟩)), (60, .slice (some ⟨ga, oa, none⟩) m1 p.d), (61, .int .i64 i), (62, .pointer (some ⟨ga, oa + i * 3, none⟩)), (63, .agg #[.int .i64 xk, .int .i64 xn, .slice A1 n1 c1]), (64, .pointer (some ⟨h, 6, none⟩)), (65, .slice (some ⟨gd, od, none⟩) m1 q.d), (66, .int .i64 i), (67, .pointer (some ⟨gd, od + i * 3, none⟩)), (68, .agg #[.int .i64 yk, .int .i64 yn, .slice A2 n2 c2]), (69, .bool r), (70, .bool (!r))] (show a.tmps.size = 91 from hs) (fun i h => hsame i h) ⟨(hf 0 _ 59 rfl rfl (by decide)).1, (hf 1 _ 60 rfl rfl (by decide)).1, (hf 2 _ 61 rfl rfl (by decide)).1, (hf 3 _ 62 rfl rfl (by decide)).1, (hf 4 _ 63 rfl rfl (by decide)).1, (hf 5 _ 64 rfl rfl (by decide)).1, (hf 6 _ 65 rfl rfl (by decide)).1, (hf 7 _ 66 rfl rfl (by decide)).1, (hf 8 _ 67 rfl rfl (by decide)).1, (hf 9 _ 68 rfl rfl (by decide)).1, (hf 10 _ 69 rfl rfl (by decide)).1, (hf 11 _ 70 rfl rfl (by decide)).1, trivial⟩ (by kernel_rfl)
  obtain ⟨tmps, defers⟩ := a
  obtain rfl : defers = [] := hd
  have hl' : tmps = _ := hl
  rw [hl']
  have hb' := est2_chg hb
  refine Eq.mp ?_ (hend w' ⟨hb'.os, hb'.tape, hb'.output, hb'.size, hb'.block⟩)
  kernel_rfl

end Go.Proofs.Ytdboloabpjmgaaa

/-! Near -/
namespace Go.Proofs.Ytdboloabpjmgaaa
open Go.RowKit Go.Proofs.YtdboloabpjmgaaaW.PrintWords Go.RegionInvYtdboloabpjmgaaa Go.RegionEYtdboloabpjmgaaa

def lvsSl : List Lv → List Lv → Bool
  | [], [] => true
  | x :: r, y :: s => slB x y && lvsSl r s
  | _, _ => false
def hnB (a b : Tm) : Bool := decide (a.kind = b.kind) && (leafR a == leafR b) && (leafR a || (if a.kind = 1 then decide (a.num = b.num) else if a.kind = 2 then slB a.lv b.lv else if a.kind = 7 then (a.name.toList == b.name.toList) && lvsSl a.ls b.ls else true))
def nearT (a b : Tm) : Bool := hnB a b && (List.finRange (nK a)).all fun i => nearT (kidF a i) (b.kids.getD i.1 default)
termination_by SizeOf.sizeOf a
decreasing_by exact kidF_lt a i
def alikeT (a b : Tm) : Bool := if okT a ∧ okT b then nearT a b else decide (okT a) == decide (okT b)
inductive CmpOk : Tm → Tm → Prop
  | mk {t u : Tm} (hl : t.kind = 2 → OKL t.lv u.lv) (hs : t.kind = 7 → ∀ (i : Nat) (x y : Lv), t.ls[i]? = some x → u.ls[i]? = some y → OKL x y) (hk : ∀ i : Fin (nK t), CmpOk (kidF t i) (u.kids.getD i.1 default)) : CmpOk t u
theorem CmpOk.lv {t u : Tm} (h : CmpOk t u) : t.kind = 2 → OKL t.lv u.lv := by cases h; assumption
theorem CmpOk.ls {t u : Tm} (h : CmpOk t u) : t.kind = 7 → ∀ (i : Nat) (x y : Lv), t.ls[i]? = some x → u.ls[i]? = some y → OKL x y := by cases h; assumption
theorem CmpOk.kid {t u : Tm} (h : CmpOk t u) : ∀ i : Fin (nK t), CmpOk (kidF t i) (u.kids.getD i.1 default) := by cases h; assumption
theorem near_eq (a b : Tm) : nearT a b = (hnB a b && (List.finRange (nK a)).all fun i => nearT (kidF a i) (b.kids.getD i.1 default)) := by rw [nearT]
theorem near_leaf {a b : Tm} (h : leafT a = true) : nearT a b = hnB a b := by
  rw [near_eq, fin_none (leaf_nK h)]
  simp
theorem hn_node {a b : Tm} (ha : leafT a = false) (hb : leafT b = false) (hk : a.kind = b.kind) : hnB a b = true := by
  unfold hnB
  obtain ⟨k1, k2, k7⟩ := kind_node ha
  rw [leafR_node ha, leafR_node hb, if_neg k1, if_neg k2, if_neg k7, decide_eq_true hk]
  rfl
theorem lvsSl_len : ∀ {xs ys : List Lv}, xs.length ≠ ys.length → lvsSl xs ys = false
  | [], [], h => absurd rfl h
  | [], _ :: _, _ => rfl
  | _ :: _, [], _ => rfl
  | x :: r, y :: s, h => by
    show (slB x y && lvsSl r s) = false
    rw [lvsSl_len (xs := r) (ys := s) (by simpa using h), Bool.and_false]
theorem lvsSl_cons (x y : Lv) (r s : List Lv) : lvsSl (x :: r) (y :: s) = (slB x y && lvsSl r s) := rfl
theorem nm_kind {t u : Tm} (h : t.kind ≠ u.kind) : nearT t u = false := by rw [near_eq]; unfold hnB; rw [decide_eq_false h]; rfl
theorem nm_var {t u : Tm} (hk : t.kind = u.kind) (k : t.kind = 1) : nearT t u = (t.num == u.num) := by
  obtain ⟨h1, h2⟩ := kind_leaf (t := t) (.inl k)
  obtain ⟨-, h3⟩ := kind_leaf (t := u) (.inl (by rw [← hk]; exact k))
  rw [near_leaf (leafT_of h1)]
  unfold hnB
  rw [decide_eq_true hk, h2, h3, if_pos k]
  rfl
theorem nm_sort {t u : Tm} (hk : t.kind = u.kind) (k : t.kind = 2) : nearT t u = slB t.lv u.lv := by
  obtain ⟨h1, h2⟩ := kind_leaf (t := t) (.inr (.inl k))
  obtain ⟨-, h3⟩ := kind_leaf (t := u) (.inr (.inl (by rw [← hk]; exact k)))
  rw [near_leaf (leafT_of h1)]
  unfold hnB
  rw [decide_eq_true hk, h2, h3, if_neg (by omega), if_pos k]
  rfl
theorem nm_const {t u : Tm} (hk : t.kind = u.kind) (k : t.kind = 7) : nearT t u = ((t.name.toList == u.name.toList) && lvsSl t.ls u.ls) := by
  obtain ⟨h1, h2⟩ := kind_leaf (t := t) (.inr (.inr k))
  obtain ⟨-, h3⟩ := kind_leaf (t := u) (.inr (.inr (by rw [← hk]; exact k)))
  rw [near_leaf (leafT_of h1)]
  unfold hnB
  rw [decide_eq_true hk, h2, h3, if_neg (by omega), if_neg (by omega), if_pos k]
  simp
def alln (t u : Tm) (xs : List (Fin (nK t))) : Bool := xs.all fun i => nearT (kidF t i) (u.kids.getD i.1 default)
theorem nm_node {t u : Tm} (hk : t.kind = u.kind) (ht : leafT t = false) (hu : leafT u = false) : nearT t u = alln t u (List.finRange (nK t)) := by
  rw [near_eq, hn_node ht hu hk, Bool.true_and]; rfl
theorem alln_cons (t u : Tm) (i : Fin (nK t)) (r : List (Fin (nK t))) : alln t u (i :: r) = (nearT (kidF t i) (u.kids.getD i.1 default) && alln t u r) := rfl
theorem nm_leafR {t u : Tm} (h : leafR t ≠ leafR u) : nearT t u = false := by
  rw [near_eq]
  unfold hnB
  have : (leafR t == leafR u) = false := by simpa using h
  rw [this]
  simp
theorem nm_leafRs {t u : Tm} (hk : t.kind = u.kind) (h : leafR t = true) (h2 : leafR u = true) : nearT t u = true := by
  rw [near_leaf (leafT_of (nK_leaf h))]
  unfold hnB
  rw [decide_eq_true hk, h, h2]
  rfl
theorem leafR_nn {t : Tm} (h : leafR t = false) (h1 : t.kind ≠ 1) (h2 : t.kind ≠ 2) (h7 : t.kind ≠ 7) : leafT t = false := by
  cases hl : leafT t with
  | false => rfl
  | true => rw [leafR_leaf hl h1 h2 h7] at h; cases h
set_option maxRecDepth 100000 in
set_option maxHeartbeats 4000000 in
theorem near_calls (N : Nat) : ∀ (t : Tm), SizeOf.sizeOf t < N → ∀ (u : Tm) (p q : Pl) (w : World), CmpOk t u → TmIn w w.heap.size p t → TmIn w w.heap.size q u →
    Calls Try.prog 68 #[tmV p t, tmV q u] w fun e w' => e = .returned (.bool (nearT t u)) ∧ Below w.heap.size w w' := by
  induction N with
  | zero => intro t h; omega
  | succ N ih =>
    intro t hN u p q w hco hin hin2
    have HCO := Aside0.mk hco
    clear hco
    have IH := Aside0.mk ih
    have HNN := Aside0.mk hN
    have HIN := Aside0.mk hin
    have HIN2 := Aside0.mk hin2
    have hlt := hin.len
    have hlu := hin2.len
    have hlt9 : t.kids.length ≤ 9223372036854775807 := by omega
    have hlu9 : u.kids.length ≤ 9223372036854775807 := by omega
    have hfl := hin.ls.len
    have hfu := hin2.ls.len
    simp only [Lv.kids] at hfl hfu
    obtain ⟨W, hW⟩ : ∃ W, W = (w.alloc (tmO p t)).alloc (tmO q u) := ⟨_, rfl⟩
    have hb : Below w.heap.size w W := by rw [hW]; exact below_alloc (below_alloc (Below.refl _ _) _) _
    have HX := Aside0.mk (show W.heap[w.heap.size]? = some (tmO p t) by rw [hW]; exact box0 w _ _)
    have HY := Aside0.mk (show W.heap[w.heap.size + 1]? = some (tmO q u) by rw [hW]; exact box1 w _ _)
    have HB := Aside0.mk hb
    clear ih hN hin hin2 hb
    unfold tmV
    unfold tmO at hW
    go_enter Try.func68, Try.ntmps68
    go_upto_region 1 with (fail)
    rw [← hW]
    clear hW
    by_cases hkk : t.kind = u.kind
    · obtain ⟨la, hla⟩ : ∃ x, leafR t = x := ⟨_, rfl⟩
      obtain ⟨lb, hlb⟩ : ∃ x, leafR u = x := ⟨_, rfl⟩
      by_cases hll : la = lb
      · refine nry_region W w.heap.size (w.heap.size + 1) p q t u la lb false HX.out HY.out hkk hla hlb (by simp [hll]) hlt9 hlu9 ?_
        intro w1 hch
        have hb1 : Below W.heap.size W w1 := hch.below (fun _ h => h.elim False.elim False.elim) (Nat.le_refl _)
        have HB1 := Aside0.mk (below_then HB.out HB.out.size hb1)
        have HX1 := Aside0.mk ((hb1.block _ (blk_lt HX.out)).trans HX.out)
        have HY1 := Aside0.mk ((hb1.block _ (blk_lt HY.out)).trans HY.out)
        have HKK := Aside0.mk hkk
        have HLA := Aside0.mk hla
        have HLB := Aside0.mk hlb
        clear hch hb1 hkk hla hlb HX HY
        subst hll
        obtain ⟨p0, p1, p2, p3, p4, p5, p6, p7⟩ := row8 HX1.out
        obtain ⟨q0, q1, q2, q3, q4, q5, q6, q7⟩ := row8 HY1.out
        clear p0 p1 p2 p3 p4 p5 p6 p7 q0 q1 q2 q3 q4 q5 q6 q7
        cases la with
        | true =>
          have HE := Aside0.mk (nm_leafRs HKK.out HLA.out HLB.out)
          go_wp2_with (first
            | (refine wpList_load_row rfl 28 _ rfl (w.heap.size) rfl 28 _ (0, 0) _ HX1.out Try.underlying28 rfl (by kernel_rfl) ?_)
            | (go_at_call 77; go_must (refine (refleaf_calls t p w1 hlt9).mono ?_; rintro e w2 ⟨rfl, hb⟩; rw [HLA.out]; have HB2 := Aside0.mk (below_then HB1.out HB1.out.size hb); have HX2 := Aside0.mk ((hb.block _ (blk_lt HX1.out)).trans HX1.out); have HY2 := Aside0.mk ((hb.block _ (blk_lt HY1.out)).trans HY1.out); obtain ⟨p0, p1, p2, p3, p4, p5, p6, p7⟩ := row8 HX2.out; obtain ⟨q0, q1, q2, q3, q4, q5, q6, q7⟩ := row8 HY2.out; clear hb)))
          go_ret
          rw [HE.out]
          exact ⟨rfl, HB2.out⟩
        | false =>
          go_upto_region 5 with (first
            | (refine wpList_load_row rfl 28 _ rfl (w.heap.size) rfl 28 _ (0, 0) _ HX1.out Try.underlying28 rfl (by kernel_rfl) ?_)
            | (go_at_call 77; go_must (refine (refleaf_calls t p w1 hlt9).mono ?_; rintro e w2 ⟨rfl, hb⟩; rw [HLA.out]; have HB2 := Aside0.mk (below_then HB1.out HB1.out.size hb); have HX2 := Aside0.mk ((hb.block _ (blk_lt HX1.out)).trans HX1.out); have HY2 := Aside0.mk ((hb.block _ (blk_lt HY1.out)).trans HY1.out); obtain ⟨p0, p1, p2, p3, p4, p5, p6, p7⟩ := row8 HX2.out; obtain ⟨q0, q1, q2, q3, q4, q5, q6, q7⟩ := row8 HY2.out; clear hb)))
          by_cases k1 : t.kind = 1
          · have b1 : (t.kind == 1) = true := by simp [k1]
            have HE := Aside0.mk (nm_var HKK.out k1)
            clear k1
            go_wp2
            go_ret
            rw [HE.out]
            exact ⟨rfl, HB2.out⟩
          · have b1 : (t.kind == 1) = false := by simp [k1]
            by_cases k2 : t.kind = 2
            · have b2 : (t.kind == 2) = true := by simp [k2]
              have HE := Aside0.mk (nm_sort HKK.out k2)
              have HK2 := Aside0.mk k2
              clear k1 k2
              go_wp2_with (go_at_call 29; go_must (refine (slevel_at p.A q.A p.c q.c _ _ _ _ _ _ t.lv u.lv w2 rfl rfl rfl rfl rfl rfl (HCO.out.lv HK2.out) (below_all HIN.out HB2.out).lv.all (below_all HIN2.out HB2.out).lv.all).mono ?_; rintro e w3 ⟨rfl, hb⟩; have HB3 := Aside0.mk (below_then HB2.out HB2.out.size hb); clear hb))
              go_ret
              rw [HE.out]
              exact ⟨rfl, HB3.out⟩
            · have b2 : (t.kind == 2) = false := by simp [k2]
              by_cases k7 : t.kind = 7
              · have b7 : (t.kind == 7) = true := by simp [k7]
                have HE := Aside0.mk (nm_const HKK.out k7)
                have HK7 := Aside0.mk k7
                clear k1 k2 k7
                by_cases hn : t.name.toList = u.name.toList
                case neg =>
                  have HE2 := Aside0.mk (show nearT t u = false by rw [HE.out, show (t.name.toList == u.name.toList) = false by simpa using hn, Bool.false_and])
                  go_wp2
                  go_ret
                  rw [HE2.out]
                  exact ⟨rfl, HB2.out⟩
                case pos =>
                  have HE2 := Aside0.mk (show nearT t u = lvsSl t.ls u.ls by rw [HE.out, show (t.name.toList == u.name.toList) = true by simpa using hn, Bool.true_and])
                  obtain ⟨M, hM1⟩ : ∃ M, t.ls.length = M := ⟨_, rfl⟩
                  obtain ⟨M2, hM2⟩ : ∃ M, u.ls.length = M := ⟨_, rfl⟩
                  have HM1 := Aside0.mk hM1
                  rw [hM1] at p6 hfl
                  rw [hM2] at q6 hfu
                  clear hM1
                  by_cases hmm : M = M2
                  · subst hmm
                    have HM2 := Aside0.mk hM2
                    have bm : ((M : Int) != (M : Int)) = false := by simp
                    clear hM2
                    go_wp2
                    clear hn p0 p1 p2 p3 p4 p5 p6 p7 q0 q1 q2 q3 q4 q5 q6 q7
                    go_loopw [56] (fun i wr => ∃ k : Nat, i = .int .i64 k ∧ k ≤ M ∧ Aside0 (lvsSl (t.ls.drop k) (u.ls.drop k) = lvsSl t.ls u.ls) ∧ Aside0 (Below w2.heap.size w2 wr)) (fun i _ => M - (intOf i).toNat)
                    case atStart => exact ⟨0, rfl, Nat.zero_le _, ⟨rfl⟩, ⟨Below.refl _ _⟩⟩
                    case round =>
                      obtain ⟨k, rfl, hk, HK, HBR⟩ := hrel
                      by_cases hlk : k < M
                      · obtain ⟨x, hx⟩ : ∃ x, t.ls[k]? = some x := ⟨_, List.getElem?_eq_getElem (by rw [HM1.out]; exact hlk)⟩
                        obtain ⟨y, hy⟩ : ∃ y, u.ls[k]? = some y := ⟨_, List.getElem?_eq_getElem (by rw [HM2.out]; exact hlk)⟩
                        have HBA := Aside0.mk (below_then HB2.out HB2.out.size HBR.out)
                        obtain ⟨A', c', hcs, hin⟩ := (TmIn.stay HIN.out HBA.out).ls.kid k x hx
                        obtain ⟨B', d', hct, hin2⟩ := (TmIn.stay HIN2.out HBA.out).ls.kid k y hy
                        obtain ⟨⟨ga, oa, sa⟩, hpB, hga, rfl, d1, d2, d3⟩ := hcs
                        obtain ⟨⟨gd, od, sd⟩, hqB, hgd, rfl, f1, f2, f3⟩ := hct
                        rw [add_flat] at d1 d2 d3 f1 f2 f3
                        have HDX := Aside0.mk (drop_lv hx)
                        have HDY := Aside0.mk (drop_lv hy)
                        have HXI := Aside0.mk hin.all
                        have HYI := Aside0.mk hin2.all
                        have HOK := Aside0.mk (HCO.out.ls HK7.out k x y hx hy)
                        obtain ⟨r, hr⟩ : ∃ r, slB x y = r := ⟨_, rfl⟩
                        have HR := Aside0.mk hr
                        have HXR := Aside0.mk ((HBR.out.block _ (blk_lt HX2.out)).trans HX2.out)
                        have HYR := Aside0.mk ((HBR.out.block _ (blk_lt HY2.out)).trans HY2.out)
                        have hzr := HBA.out.size
                        have hga : ga < w.heap.size := hga
                        have hgd : gd < w.heap.size := hgd
                        go_upto_region 16 with (fail)
                        refine nrl_region wr w.heap.size (w.heap.size + 1) k p q t u ga oa gd od M x.kind x.num y.kind y.num A' B' x.kids.length c' y.kids.length d' r HXR.out HYR.out hpB hqB HM1.out HM2.out (by omega) (by omega) hlk (by omega)
                          d1 d2 d3 f1 f2 f3 (fun w9 hb9 => by rw [← hr]; exact slevel_at A' B' c' d' _ _ _ _ _ _ x y w9 rfl rfl rfl rfl rfl rfl HOK.out (LvIn.stay HXI.out hb9).all (LvIn.stay HYI.out hb9).all) ?_
                        intro w5 hch
                        have HB5 := Aside0.mk (below_then HBR.out HBR.out.size (hch.below (fun _ h => h.elim False.elim False.elim) (Nat.le_refl _)))
                        clear hch d1 d2 d3 f1 f2 f3 hpB hqB hga hgd hin hin2 hx hy hr
                        cases r with
                        | true =>
                          have HK2 := Aside0.mk (show lvsSl (t.ls.drop (k + 1)) (u.ls.drop (k + 1)) = lvsSl t.ls u.ls by rw [← HK.out, HDX.out, HDY.out, lvsSl_cons, HR.out, Bool.true_and])
                          go_wp2
                          go_roundw
                          case rel => exact ⟨k + 1, by go_num, by omega, HK2, HB5⟩
                          case measure => (simp [intOf]; try omega)
                        | false =>
                          have HK2 := Aside0.mk (show nearT t u = false by rw [HE2.out, ← HK.out, HDX.out, HDY.out, lvsSl_cons, HR.out, Bool.false_and])
                          have HFN := Aside0.mk (below_then HB2.out HB2.out.size HB5.out)
                          go_wp2
                          go_ret
                          rw [HK2.out]
                          exact ⟨rfl, HFN.out⟩
                      · obtain rfl : k = M := by omega
                        have hlt' : decide ((k : Int) < k) = false := by simp
                        have HZ := Aside0.mk (show nearT t u = true by rw [HE2.out, ← HK.out, List.drop_of_length_le (by rw [HM1.out]; exact Nat.le_refl _), List.drop_of_length_le (by rw [HM2.out]; exact Nat.le_refl _)]; rfl)
                        have HFN := Aside0.mk (below_then HB2.out HB2.out.size HBR.out)
                        go_wp2
                        go_ret
                        rw [HZ.out]
                        exact ⟨rfl, HFN.out⟩
                  · have bm : ((M : Int) != (M2 : Int)) = true := by simp; omega
                    have HE3 := Aside0.mk (show nearT t u = false by rw [HE2.out]; exact lvsSl_len (by rw [HM1.out, hM2]; exact hmm))
                    clear hmm hM2
                    go_wp2
                    go_ret
                    rw [HE3.out]
                    exact ⟨rfl, HB2.out⟩
              · have b7 : (t.kind == 7) = false := by simp [k7]
                have HKN := Aside0.mk (And.intro (leafR_nn HLA.out k1 k2 k7) (leafR_nn HLB.out (by rw [← HKK.out]; exact k1) (by rw [← HKK.out]; exact k2) (by rw [← HKK.out]; exact k7)))
                clear k1 k2 k7
                have HE := Aside0.mk (nm_node HKK.out HKN.out.1 HKN.out.2)
                have HLA := Aside0.mk HKN.out.1
                have HLB := Aside0.mk HKN.out.2
                obtain ⟨ar, har⟩ : ∃ x, nK t = x := ⟨_, rfl⟩
                have HAR := Aside0.mk har
                have hnk := nK_ar (leaf_nK' HKN.out.1)
                have HAC := Aside0.mk (show ∀ w, Calls Try.prog 39 #[.int .i64 t.kind] w fun e w' => e = .returned (.int .i64 (ar : Int)) ∧ w' = w from fun w => by rw [← har, hnk]; exact refkids_calls _ _)
                have har3 : ar ≤ 3 := by rw [← har]; exact nK_le3 t
                have hart : ar ≤ t.kids.length := by rw [← har]; exact nK_le t
                have haru : ar ≤ u.kids.length := by rw [← har, nK_same HKK.out HKN.out.1 HKN.out.2]; exact nK_le u
                clear har hnk p1 p2 p3 p4 p5 p6 p7 q0 q1 q2 q3 q4 q5 q6 q7
                go_wp2_with (go_at_call 39; go_must (refine (HAC.out _).mono ?_; rintro e w3 ⟨rfl, h3⟩; have h3 := h3.symm; subst h3))
                clear p0
                go_loopw [75] (fun i wr => ∃ k : Nat, i = .int .i64 k ∧ k ≤ ar ∧ Aside0 (alln t u ((List.finRange (nK t)).drop k) = nearT t u) ∧ Aside0 (Below w2.heap.size w2 wr)) (fun i _ => ar - (intOf i).toNat)
                case atStart => exact ⟨0, rfl, Nat.zero_le _, ⟨by rw [List.drop_zero]; exact HE.out.symm⟩, ⟨Below.refl _ _⟩⟩
                case round =>
                  obtain ⟨k, rfl, hk, HK, HBR⟩ := hrel
                  by_cases hlk : k < ar
                  · have hkn : k < nK t := by rw [HAR.out]; exact hlk
                    have hkm : k < nK u := by rw [← nK_same HKK.out HLA.out HLB.out]; exact hkn
                    have HDF := Aside0.mk (drop_fin hkn)
                    have HBA := Aside0.mk (below_then HB2.out HB2.out.size HBR.out)
                    obtain ⟨qq, hqq⟩ := (TmIn.stay HIN.out HBA.out).kid
                    obtain ⟨qr, hqr⟩ := (TmIn.stay HIN2.out HBA.out).kid
                    obtain ⟨⟨ga, oa, hpK, hga, hca⟩, hxin⟩ := hqq k _ (kidF_get t ⟨k, hkn⟩)
                    obtain ⟨⟨gd, od, hqK, hgd, hcb⟩, hyin⟩ := hqr k _ (kidF_get u ⟨k, hkm⟩)
                    have HGD := Aside0.mk (show u.kids.getD k default = kidF u ⟨k, hkm⟩ by rw [List.getD_eq_getElem?_getD, kidF_get u ⟨k, hkm⟩]; rfl)
                    have HCK := Aside0.mk (HCO.out.kid ⟨k, hkn⟩)
                    have HAL := Aside0.mk (alln_cons t u ⟨k, hkn⟩ ((List.finRange (nK t)).drop (k + 1)))
                    have HXL := Aside0.mk (kidF_lt t ⟨k, hkn⟩)
                    obtain ⟨x, hxe⟩ : ∃ x, kidF t ⟨k, hkn⟩ = x := ⟨_, rfl⟩
                    obtain ⟨y, hye⟩ : ∃ y, kidF u ⟨k, hkm⟩ = y := ⟨_, rfl⟩
                    rw [hxe] at hca hxin HAL HXL HCK
                    rw [hye] at hcb hyin HGD
                    rw [HGD.out] at HAL HCK
                    have HXI := Aside0.mk (TmS.all hxin)
                    have HYI := Aside0.mk (TmS.all hyin)
                    have HXR := Aside0.mk ((HBR.out.block _ (blk_lt HX2.out)).trans HX2.out)
                    have HYR := Aside0.mk ((HBR.out.block _ (blk_lt HY2.out)).trans HY2.out)
                    obtain ⟨r, hr⟩ : ∃ r, nearT x y = r := ⟨_, rfl⟩
                    have HR := Aside0.mk hr
                    have hzr := HBA.out.size
                    have ca := fun (j : Nat) (v : Value) (h : (tmC (qq k) x)[j]? = some v) => hca j v h
                    have cb := fun (j : Nat) (v : Value) (h : (tmC (qr k) y)[j]? = some v) => hcb j v h
                    go_upto_region 23 with (fail)
                    refine nrk_region wr w.heap.size (w.heap.size + 1) k p q t u ga oa gd od t.kids.length u.kids.length (qq k) (qr k) x y r HXR.out HYR.out hpK hqK rfl rfl (by omega) (by omega) (by omega) (by omega) hlt9 hlu9 (by omega)
                      (ca 0 _ rfl) (ca 1 _ rfl) (ca 2 _ rfl) (ca 3 _ rfl) (ca 4 _ rfl) (ca 5 _ rfl) (ca 6 _ rfl) (ca 7 _ rfl) (cb 0 _ rfl) (cb 1 _ rfl) (cb 2 _ rfl) (cb 3 _ rfl) (cb 4 _ rfl) (cb 5 _ rfl) (cb 6 _ rfl) (cb 7 _ rfl)
                      (fun w9 hb9 => by rw [← hr]; exact IH.out x (by have := HXL.out; have := HNN.out; omega) y (qq k) (qr k) w9 HCK.out (below_all HXI.out hb9) (below_all HYI.out hb9)) ?_
                    intro w5 hch
                    have HB5 := Aside0.mk (below_then HBR.out HBR.out.size (hch.below (fun _ h => h.elim False.elim False.elim) (Nat.le_refl _)))
                    clear hch hca hcb hxin hyin hpK hqK hga hgd hqq hqr hxe hye ca cb hr
                    cases r with
                    | true =>
                      have HK2 := Aside0.mk (show alln t u ((List.finRange (nK t)).drop (k + 1)) = nearT t u by rw [← HK.out, HDF.out, HAL.out, HR.out, Bool.true_and])
                      go_wp2
                      go_roundw
                      case rel => exact ⟨k + 1, by go_num, by omega, HK2, HB5⟩
                      case measure => (simp [intOf]; try omega)
                    | false =>
                      have HK2 := Aside0.mk (show nearT t u = false by rw [← HK.out, HDF.out, HAL.out, HR.out, Bool.false_and])
                      have HFN := Aside0.mk (below_then HB2.out HB2.out.size HB5.out)
                      go_wp2
                      go_ret
                      rw [HK2.out]
                      exact ⟨rfl, HFN.out⟩
                  · obtain rfl : k = ar := by omega
                    have hlt' : decide ((k : Int) < k) = false := by simp
                    have HZ := Aside0.mk (show nearT t u = true by rw [← HK.out, List.drop_of_length_le (by rw [List.length_finRange, HAR.out]; exact Nat.le_refl _)]; rfl)
                    have HFN := Aside0.mk (below_then HB2.out HB2.out.size HBR.out)
                    go_wp2
                    go_ret
                    rw [HZ.out]
                    exact ⟨rfl, HFN.out⟩
      · refine nry_region W w.heap.size (w.heap.size + 1) p q t u la lb true HX.out HY.out hkk hla hlb (by simp [hll]) hlt9 hlu9 ?_
        intro w1 hch
        have hb1 : Below W.heap.size W w1 := hch.below (fun _ h => h.elim False.elim False.elim) (Nat.le_refl _)
        have HB1 := Aside0.mk (below_then HB.out HB.out.size hb1)
        have HX1 := Aside0.mk ((hb1.block _ (blk_lt HX.out)).trans HX.out)
        have HY1 := Aside0.mk ((hb1.block _ (blk_lt HY.out)).trans HY.out)
        have HKK := Aside0.mk hkk
        have HLA := Aside0.mk hla
        have HLB := Aside0.mk hlb
        clear hch hb1 hkk hla hlb HX HY
        have HE := Aside0.mk (nm_leafR (t := t) (u := u) (by rw [HLA.out, HLB.out]; exact hll))
        clear hll
        go_wp2
        go_ret
        rw [HE.out]
        exact ⟨rfl, HB1.out⟩
    · refine nrn_region W w.heap.size (w.heap.size + 1) p q t u HX.out HY.out hkk ?_
      intro w1 hch
      have HB1 := Aside0.mk (below_then HB.out HB.out.size (hch.below (fun _ h => h.elim False.elim False.elim) (Nat.le_refl _)))
      have HE := Aside0.mk (nm_kind hkk)
      clear hch hkk
      go_wp2
      go_ret
      rw [HE.out]
      exact ⟨rfl, HB1.out⟩
end Go.Proofs.Ytdboloabpjmgaaa

/-! DbI -/
namespace Go.Proofs.Ytdboloabpjmgaaa
open Go.RowKit Go.Proofs.YtdboloabpjmgaaaW.PrintWords Go.RegionInvYtdboloabpjmgaaa Go.RegionEYtdboloabpjmgaaa
set_option linter.unusedVariables false

def is1_ops : List Oper := [
  { dst := some 7, op := Go.Op.load 28 (Go.Operand.tmp 2), type := 28, pos := "ref.go:262", after := #[], guard := none },
  { dst := some 8, op := Go.Op.call { callee := Go.Callee.value (Go.Operand.func 21), args := #[Go.Operand.tmp 7], argTypes := #[28] }, type := 3, pos := "ref.go:262", after := #[{ on := 0, ground := Go.Ground.data }], guard := none },
  { dst := some 9, op := Go.Op.load 28 (Go.Operand.tmp 3), type := 28, pos := "ref.go:262", after := #[], guard := none },
  { dst := some 10, op := Go.Op.call { callee := Go.Callee.value (Go.Operand.func 21), args := #[Go.Operand.tmp 9], argTypes := #[28] }, type := 3, pos := "ref.go:262", after := #[{ on := 2, ground := Go.Ground.data }, { on := 1, ground := Go.Ground.chain }], guard := none },
  { dst := some 5, op := Go.Op.assign (Go.Operand.tmp 8), type := 3, pos := "ref.go:262", after := #[{ on := 1, ground := Go.Ground.data }, { on := 3, ground := Go.Ground.chain }, { on := 0, ground := Go.Ground.phase }, { on := 1, ground := Go.Ground.phase }, { on := 2, ground := Go.Ground.textOnly Go.Departure.lateStores }, { on := 3, ground := Go.Ground.textOnly Go.Departure.lateStoresUnsure }], guard := none },
  { dst := some 6, op := Go.Op.assign (Go.Operand.tmp 10), type := 3, pos := "ref.go:262", after := #[{ on := 3, ground := Go.Ground.data }, { on := 4, ground := Go.Ground.chain }, { on := 0, ground := Go.Ground.phase }, { on := 1, ground := Go.Ground.phase }, { on := 2, ground := Go.Ground.phase }, { on := 3, ground := Go.Ground.phase }, { on := 4, ground := Go.Ground.phase }], guard := none }]
def is1_F (w0 : World) (B : Nat) (ga : Nat) (pa : Pl) (ta : Tm) (gb : Nat) (pb : Pl) (tb : Tm) (sa sb : Int) : Nat → (Nat → Value) → Value → World → (Nat → Prop) → Prop := fun rix => match rix with
  | 0 => fun _ v _ _ => v = tmV pa ta
  | 1 => fun _ v _ _ => v = .int .i64 sa
  | 2 => fun _ v _ _ => v = tmV pb tb
  | 3 => fun _ v _ _ => v = .int .i64 sb
  | 4 => fun _ v _ _ => v = .int .i64 sa
  | 5 => fun _ v _ _ => v = .int .i64 sb
  | _ => fun _ _ _ _ => True
def is1_C : Nat → List Nat := fun rix => match rix with
  | _ => []
theorem is1_nw2 : nwB is1_ops.toArray 2 = true := by kernel_rfl
theorem is1_nw3 : nwB is1_ops.toArray 3 = true := by kernel_rfl
set_option maxRecDepth 100000 in
set_option maxHeartbeats 8000000 in
theorem is1_obs (w0 : World) (B : Nat) (ga : Nat) (pa : Pl) (ta : Tm) (gb : Nat) (pb : Pl) (tb : Tm) (sa sb : Int) (hB : B ≤ w0.heap.size) (hx2 : w0.heap[ga]? = some (tmO pa ta)) (hin2 : TmIn w0 B pa ta) (hx3 : w0.heap[gb]? = some (tmO pb tb)) (hin3 : TmIn w0 B pb tb) (hsa : (measP ta).1 = sa) (hsb : (measP tb).1 = sb) (Q : Exit → Act → World → Prop) (a0 : Act) (hi2 : a0.tmps.getD 2 undef = .pointer (some ⟨ga, 0, none⟩)) (hi3 : a0.tmps.getD 3 undef = .pointer (some ⟨gb, 0, none⟩)) :
    ObsE Try.prog is1_ops.toArray Q (est2 0 0 (fun _ => False) (fun _ => False)) is1_C (is1_F w0 B ga pa ta gb pb tb sa sb) a0 w0 is1_ops.toArray.toList 0 := by
  have nw2 := is1_nw2
  have nw3 := is1_nw3
  refine ⟨?_, ?_, ?_, ?_, ?_, ?_, trivial⟩
  · refine ⟨⟨fun τ => stableE_det _, leans_not⟩, ?_⟩
    intro a w O hk
    have e2 : a.eval (.tmp 2) = .pointer (some ⟨ga, 0, none⟩) := (hk.init 2 (initialB_of_nw nw2)).trans hi2
    have x2 := hk.world.still hx2 (fun ⟨_, h⟩ => h.elim And.right And.right)
    have x3 := hk.world.still hx3 (fun ⟨_, h⟩ => h.elim And.right And.right)
    have hfx : ∀ k, k < B → w.heap[k]? = w0.heap[k]? := fun k hk' => hk.fix k ((fun k hk' => est2_fix (Nat.lt_of_lt_of_le hk' hB) (fun e => e.elim) (fun e => e.elim)) k hk')
    have hsz := hk.world.size
    have y2 := hin2.same (w' := w) (fun k hk' _ => hfx k hk')
    have y3 := hin3.same (w' := w) (fun k hk' _ => hfx k hk')
    exact obE_loadRow rfl e2 x2 Try.underlying28 rfl (by kernel_rfl) (wanted_none rfl) rfl
  · refine ⟨⟨fun τ => stableE_det _, leans_not⟩, ?_⟩
    intro a w O hk
    have e7 : a.eval (.tmp 7) = tmV pa ta := hk.fact 0 _ 7 rfl rfl rfl rfl
    have x2 := hk.world.still hx2 (fun ⟨_, h⟩ => h.elim And.right And.right)
    have x3 := hk.world.still hx3 (fun ⟨_, h⟩ => h.elim And.right And.right)
    have hfx : ∀ k, k < B → w.heap[k]? = w0.heap[k]? := fun k hk' => hk.fix k ((fun k hk' => est2_fix (Nat.lt_of_lt_of_le hk' hB) (fun e => e.elim) (fun e => e.elim)) k hk')
    have hsz := hk.world.size
    have y2 := hin2.same (w' := w) (fun k hk' _ => hfx k hk')
    have y3 := hin3.same (w' := w) (fun k hk' _ => hfx k hk')
    exact obE_callV #[tmV pa ta] rfl rfl rfl rfl (by simp only [List.map_cons, List.map_nil]; rw [e7]; try rfl) (wanted_none rfl) ((refSize_calls ta pa w (TmIn.mono y2 (Nat.le_trans hB hsz))).mono fun e w' h => ⟨by rw [h.1, hsa], h.2⟩)
  · refine ⟨⟨fun τ => stableE_det _, leans_not⟩, ?_⟩
    intro a w O hk
    have e3 : a.eval (.tmp 3) = .pointer (some ⟨gb, 0, none⟩) := (hk.init 3 (initialB_of_nw nw3)).trans hi3
    have x2 := hk.world.still hx2 (fun ⟨_, h⟩ => h.elim And.right And.right)
    have x3 := hk.world.still hx3 (fun ⟨_, h⟩ => h.elim And.right And.right)
    have hfx : ∀ k, k < B → w.heap[k]? = w0.heap[k]? := fun k hk' => hk.fix k ((fun k hk' => est2_fix (Nat.lt_of_lt_of_le hk' hB) (fun e => e.elim) (fun e => e.elim)) k hk')
    have hsz := hk.world.size
    have y2 := hin2.same (w' := w) (fun k hk' _ => hfx k hk')
    have y3 := hin3.same (w' := w) (fun k hk' _ => hfx k hk')
    exact obE_loadRow rfl e3 x3 Try.underlying28 rfl (by kernel_rfl) (wanted_none rfl) rfl
  · refine ⟨⟨fun τ => stableE_det _, leans_not⟩, ?_⟩
    intro a w O hk
    have e9 : a.eval (.tmp 9) = tmV pb tb := hk.fact 2 _ 9 rfl rfl rfl rfl
    have x2 := hk.world.still hx2 (fun ⟨_, h⟩ => h.elim And.right And.right)
    have x3 := hk.world.still hx3 (fun ⟨_, h⟩ => h.elim And.right And.right)
    have hfx : ∀ k, k < B → w.heap[k]? = w0.heap[k]? := fun k hk' => hk.fix k ((fun k hk' => est2_fix (Nat.lt_of_lt_of_le hk' hB) (fun e => e.elim) (fun e => e.elim)) k hk')
    have hsz := hk.world.size
    have y2 := hin2.same (w' := w) (fun k hk' _ => hfx k hk')
    have y3 := hin3.same (w' := w) (fun k hk' _ => hfx k hk')
    exact obE_callV #[tmV pb tb] rfl rfl rfl rfl (by simp only [List.map_cons, List.map_nil]; rw [e9]; try rfl) (wanted_none rfl) ((refSize_calls tb pb w (TmIn.mono y3 (Nat.le_trans hB hsz))).mono fun e w' h => ⟨by rw [h.1, hsb], h.2⟩)
  · refine ⟨⟨fun τ => stableE_det _, leans_not⟩, ?_⟩
    intro a w O hk
    have e8 : a.eval (.tmp 8) = .int .i64 sa := hk.fact 1 _ 8 rfl rfl rfl rfl
    exact toE (ob_assign rfl e8 (wanted_none rfl) rfl)
  · refine ⟨⟨fun τ => stableE_det _, leans_not⟩, ?_⟩
    intro a w O hk
    have e10 : a.eval (.tmp 10) = .int .i64 sb := hk.fact 3 _ 10 rfl rfl rfl rfl
    exact toE (ob_assign rfl e10 (wanted_none rfl) rfl)
set_option maxRecDepth 100000 in
set_option maxHeartbeats 8000000 in
theorem is1_region {Q : Exit → Act → World → Prop} {id : Nat} (w0 : World) (B : Nat) (ga : Nat) (pa : Pl) (ta : Tm) (gb : Nat) (pb : Pl) (tb : Tm) (sa sb : Int) {s0 s1 s4 s5 s6 s7 s8 s9 s10 s11 s12 s13 s14 s15 s16 s17 s18 s19 s20 s21 s22 s23 s24 : Value} (hB : B ≤ w0.heap.size) (hx2 : w0.heap[ga]? = some (tmO pa ta)) (hin2 : TmIn w0 B pa ta) (hx3 : w0.heap[gb]? = some (tmO pb tb)) (hin3 : TmIn w0 B pb tb) (hsa : (measP ta).1 = sa) (hsb : (measP tb).1 = sb)
    (hend : ∀ (w' : World), Chg (fun k => False ∨ False) w0 w' → Q .normal { tmps := (s0 :: s1 :: (.pointer (some ⟨ga, 0, none⟩)) :: (.pointer (some ⟨gb, 0, none⟩)) :: s4 :: (.int .i64 sa) :: (.int .i64 sb) :: (tmV pa ta) :: (.int .i64 sa) :: (tmV pb tb) :: (.int .i64 sb) :: s11 :: s12 :: s13 :: s14 :: s15 :: s16 :: s17 :: s18 :: s19 :: s20 :: s21 :: s22 :: s23 :: s24 :: [] : List Value).toArray, defers := [] } w') :
    (Code.region id is1_ops.toArray true).wp Try.prog Q { tmps := (s0 :: s1 :: (.pointer (some ⟨ga, 0, none⟩)) :: (.pointer (some ⟨gb, 0, none⟩)) :: s4 :: s5 :: s6 :: s7 :: s8 :: s9 :: s10 :: s11 :: s12 :: s13 :: s14 :: s15 :: s16 :: s17 :: s18 :: s19 :: s20 :: s21 :: s22 :: s23 :: s24 :: [] : List Value).toArray, defers := [] } w0 := by
  refine wp_region_est (by kernel_rfl) (est2 0 0 (fun _ => False) (fun _ => False)) is1_C (is1_F w0 B ga pa ta gb pb tb sa sb) (est2_dis (fun _ h _ => h)) (est2_range (fun _ h => h.elim) (fun _ h => h.elim)) (by rfl) (by kernel_rfl) (is1_obs w0.drew B ga pa ta gb pb tb sa sb hB hx2 (TmS.same hin2 (fun _ _ _ => rfl)) hx3 (TmS.same hin3 (fun _ _ _ => rfl)) hsa hsb _ _ rfl rfl) ?_
  intro a w' O hd hs hb hf hf2 ha hsame
  have hl := slots_eq (ops := is1_ops.toArray) [(5, .int .i64 sa), (6, .int .i64 sb), (7, tmV pa ta), (8, .int .i64 sa), (9, tmV pb tb), (10, .int .i64 sb)] (show a.tmps.size = 25 from hs) (fun i h => hsame i h) ⟨(hf 4 _ 5 rfl rfl (by decide)).1, (hf 5 _ 6 rfl rfl (by decide)).1, (hf 0 _ 7 rfl rfl (by decide)).1, (hf 1 _ 8 rfl rfl (by decide)).1, (hf 2 _ 9 rfl rfl (by decide)).1, (hf 3 _ 10 rfl rfl (by decide)).1, trivial⟩ (by kernel_rfl)
  obtain ⟨tmps, defers⟩ := a
  obtain rfl : defers = [] := hd
  have hl' : tmps = _ := hl
  rw [hl']
  have hb' := est2_chg hb
  refine Eq.mp ?_ (hend w' ⟨hb'.os, hb'.tape, hb'.output, hb'.size, hb'.block⟩)
  kernel_rfl


abbrev dupT : Tm := appT (varT 0) (varT 0)
theorem size_appT (x y : Tm) : sizeT (appT x y) = 1 + (sizeT x + (sizeT y + 0)) := by unfold appT; rw [sizeT]; rfl
theorem depth_appT (x y : Tm) : depthT (appT x y) = 1 + max (depthT x) (max (depthT y) 0) := by unfold appT; rw [depthT]; rfl
theorem dup_size : sizeT dupT = 3 := by rw [size_appT, size_leaf (leaf_nK (leafT_var 0))]
theorem occ_varT : occT (varT 0) 0 = 1 := by rw [occ_eq]; rfl
theorem dup_occ : occT dupT 0 = 2 := by
  rw [occ_eq]
  show 0 + (occT (varT 0) (0 + moreZ dupT 0) + (occT (varT 0) (0 + moreZ dupT 1) + 0)) = 2
  rw [app_more, app_more, Int.add_zero, occ_varT]
theorem dup_ok : okT dupT := ⟨by rw [dup_size]; decide, by rw [depth_appT, depth_leaf (leaf_nK (leafT_var 0))]; decide⟩
theorem dup_bt : Bt dupT := .app .var .var
set_option maxRecDepth 100000 in
set_option maxHeartbeats 8000000 in
theorem instSize_calls (D : Tm) (hD : okT D) (p pv : Pl) (w : World) (hin : TmIn w w.heap.size p dupT) (hinv : TmIn w w.heap.size pv D) :
    Calls Try.prog 64 #[tmV p dupT, tmV pv D] w fun e w' => e = .returned (.int .i64 (min 20001 (2 * (sizeT D : Int) + 1))) ∧ Below w.heap.size w w' := by
  obtain ⟨t, ht⟩ : ∃ t, t = dupT := ⟨_, rfl⟩
  rw [← ht] at hin ⊢
  obtain ⟨W, hW⟩ : ∃ W, W = (w.alloc (tmO p t)).alloc (tmO pv D) := ⟨_, rfl⟩
  have hb : Below w.heap.size w W := by rw [hW]; exact below_alloc (below_alloc (Below.refl _ _) _) _
  have HX := Aside0.mk (show W.heap[w.heap.size]? = some (tmO p t) by rw [hW]; exact box0 w _ _)
  have HX1 := Aside0.mk (show W.heap[w.heap.size + 1]? = some (tmO pv D) by rw [hW]; exact box1 w _ _)
  have HB := Aside0.mk hb
  have HIN := Aside0.mk (TmIn.stay hin hb)
  have HINV := Aside0.mk (TmIn.stay hinv hb)
  have HOC := Aside0.mk (show ∀ w, TmIn w w.heap.size p t → Calls Try.prog 52 #[tmV p t, .int .i64 0] w fun e w' => e = .returned (.int .i64 2) ∧ Below w.heap.size w w' from fun w h => (refOccurs_calls t p 0 ⟨by decide, by decide⟩ w h (by rw [ht]; exact dup_ok)).mono (by rintro e w' ⟨h1, h2⟩; refine ⟨?_, h2⟩; rw [h1, ht, dup_occ]; rfl))
  have HSA := Aside0.mk (show (measP t).1 = 3 by rw [ht, meas_yes dup_ok, dup_size]; rfl)
  obtain ⟨s, hs⟩ : ∃ s : Int, s = sizeT D := ⟨_, rfl⟩
  have HSB := Aside0.mk (show (measP D).1 = s by rw [meas_yes hD, hs])
  have hs1 : 1 ≤ s := by have := size_pos D; omega
  have hs2 : s ≤ 20000 := by have := hD.1; omega
  rw [← hs]
  clear hin hinv hb hs hD ht
  have e1 : wrap64 (s - 1) = s - 1 := by unfold wrap64; omega
  have e2 : wrap64 (2 * (s - 1)) = 2 * (s - 1) := by unfold wrap64; omega
  have e3 : wrap64 (3 + 2 * (s - 1)) = 3 + 2 * (s - 1) := by unfold wrap64; omega
  have hs0 : (s == 0) = false := by simp; omega
  unfold tmV
  unfold tmO at hW
  go_enter Try.func64, Try.ntmps64
  go_upto_region 1 with (fail)
  rw [← hW]
  clear hW
  refine is1_region W w.heap.size w.heap.size p t (w.heap.size + 1) pv D 3 s HB.out.size HX.out HIN.out HX1.out HINV.out HSA.out HSB.out ?_
  intro w2 hch
  have hb2 := hch.below (fun _ h => h.elim False.elim False.elim) (Nat.le_refl W.heap.size)
  have HB2 := Aside0.mk (below_then HB.out HB.out.size hb2)
  have HX2 := Aside0.mk ((hb2.block _ (blk_lt HX.out)).trans HX.out)
  have HIN2 := Aside0.mk (TmIn.stay HIN.out (hb2.mono HB.out.size))
  clear hch hb2
  by_cases hlt : 3 + 2 * (s - 1) < 20001
  · have HV := Aside0.mk (show min 20001 (2 * s + 1) = 3 + 2 * (s - 1) by omega)
    go_wp2_with (first
      | (refine wpList_load_row rfl 28 _ rfl (w.heap.size) rfl 28 _ (0, 0) _ HX2.out Try.underlying28 rfl (by kernel_rfl) ?_)
      | (go_at_call 52; go_must (refine (HOC.out w2 (TmS.mono HIN2.out fun k h _ => Nat.lt_of_lt_of_le h HB2.out.size)).mono ?_; rintro e w3 ⟨rfl, hb3⟩; have HB3 := Aside0.mk (below_then HB2.out HB2.out.size hb3); clear hb3)))
    go_ret
    rw [HV.out]
    exact ⟨rfl, HB3.out⟩
  · have HV := Aside0.mk (show min 20001 (2 * s + 1) = 20001 by omega)
    go_wp2_with (first
      | (refine wpList_load_row rfl 28 _ rfl (w.heap.size) rfl 28 _ (0, 0) _ HX2.out Try.underlying28 rfl (by kernel_rfl) ?_)
      | (go_at_call 52; go_must (refine (HOC.out w2 (TmS.mono HIN2.out fun k h _ => Nat.lt_of_lt_of_le h HB2.out.size)).mono ?_; rintro e w3 ⟨rfl, hb3⟩; have HB3 := Aside0.mk (below_then HB2.out HB2.out.size hb3); clear hb3)))
    go_ret
    rw [HV.out]
    exact ⟨rfl, HB3.out⟩
set_option maxRecDepth 100000 in
set_option maxHeartbeats 4000000 in
theorem leafP_calls (S : Nat → Prop) (g0 : Nat) (hS : ∀ k, S k → k < g0) (pv : Pl) (v : Tm) (hv : Bt v) (w : World) (hg0 : g0 ≤ w.heap.size) (hin : TmS w S pv v) :
    Calls Try.prog 98 #[chV 1 0 0 pv v, tmV plz (varT 0), .int .i64 0] w (TmGot w (fun _ => False) v) := by
  obtain ⟨W, hW⟩ : ∃ W, W = ((w.alloc (.cells (chC 1 0 0 pv v) 71 (0, 0))).alloc (tmO plz (varT 0))).alloc (outK 0 (.slice none 0 0)) := ⟨_, rfl⟩
  have hb : Below w.heap.size w W := by rw [hW]; exact below_alloc (below_alloc (below_alloc (Below.refl _ _) _) _) _
  have hc3 : W.heap[w.heap.size]? = some (.cells (chC 1 0 0 pv v) 71 (0, 0)) := by rw [hW]; exact blk_alloc (box0 w _ _) _
  have hx4 : W.heap[w.heap.size + 1]? = some (tmO plz (varT 0)) := by rw [hW]; exact blk_alloc (box1 w _ _) _
  have hr6 : W.heap[w.heap.size + 1 + 1]? = some (outK 0 (.slice none 0 0)) := by
    rw [hW]
    have := blk_new ((w.alloc (.cells (chC 1 0 0 pv v) 71 (0, 0))).alloc (tmO plz (varT 0))) (outK 0 (.slice none 0 0))
    simp only [World.size_alloc] at this
    exact this
  have HB := Aside0.mk hb
  have HX1 := Aside0.mk hr6
  have HZ := Aside0.mk (show w.heap.size + 3 = W.heap.size by rw [hW]; simp)
  have HCA := Aside0.mk (show ∀ w, g0 ≤ w.heap.size → TmS w S pv v → Calls Try.prog 69 #[tmV pv v, .int .i64 0, .int .i64 0] w (TmGot w (fun _ => False) v) from fun w hg h => by
    have := rlift_calls S g0 hS 0 ⟨by decide, by decide⟩ hv pv w hg h
    rwa [hv.id rfl rfl] at this)
  have HIN := Aside0.mk (TmS.stay hin hS (hb.mono hg0))
  have c0 : W.cell? ⟨w.heap.size, 0, none⟩ = some (.int .i64 1) := by rw [cell_of_row _ _ _ _ _ _ hc3]; rfl
  have c3 : W.cell? ⟨w.heap.size, 3, none⟩ = some (.int .i64 v.kind) := by rw [cell_of_row _ _ _ _ _ _ hc3]; rfl
  have c4 : W.cell? ⟨w.heap.size, 4, none⟩ = some (.int .i64 v.num) := by rw [cell_of_row _ _ _ _ _ _ hc3]; rfl
  have c5 : W.cell? ⟨w.heap.size, 5, none⟩ = some (.string v.name) := by rw [cell_of_row _ _ _ _ _ _ hc3]; rfl
  have c6 : W.cell? ⟨w.heap.size, 6, none⟩ = some (.int .i64 v.lv.kind) := by rw [cell_of_row _ _ _ _ _ _ hc3]; rfl
  have c7 : W.cell? ⟨w.heap.size, 7, none⟩ = some (.int .i64 v.lv.num) := by rw [cell_of_row _ _ _ _ _ _ hc3]; rfl
  have c8 : W.cell? ⟨w.heap.size, 8, none⟩ = some (.slice pv.A v.lv.kids.length pv.c) := by rw [cell_of_row _ _ _ _ _ _ hc3]; rfl
  have c9 : W.cell? ⟨w.heap.size, 9, none⟩ = some (.slice pv.B v.ls.length pv.d) := by rw [cell_of_row _ _ _ _ _ _ hc3]; rfl
  have c10 : W.cell? ⟨w.heap.size, 10, none⟩ = some (.slice pv.K v.kids.length pv.e) := by rw [cell_of_row _ _ _ _ _ _ hc3]; rfl
  obtain ⟨x0, x1, x2, x3, x4, x5, x6, x7⟩ := row8 hx4
  replace x0 : W.cell? ⟨w.heap.size + 1, 0, none⟩ = some (.int .i64 1) := x0
  replace x1 : W.cell? ⟨w.heap.size + 1, 1, none⟩ = some (.int .i64 0) := x1
  clear hb hc3 hr6 hx4 x2 x3 x4 x5 x6 x7 hS hin
  unfold chV tmV
  unfold tmO at hW
  go_enter Try.func98, Try.ntmps98
  go_upto_region 1 with (fail)
  rw [← hW]
  clear hW
  go_wp2_with (go_at_call 69; go_must (refine (HCA.out W (Nat.le_trans hg0 HB.out.size) HIN.out).mono ?_; rintro e w3 ⟨q9, rfl, ht9, hb3⟩; have HT9 := Aside0.mk ht9; have HX13 := Aside0.mk ((hb3.block _ (blk_lt HX1.out)).trans HX1.out); have HB3 := Aside0.mk (below_then HB.out HB.out.size hb3); obtain ⟨r0, r1, r2, r3, r4, r5, r6, r7, f0, f1, f2, f3, f4, f5, f6, f7⟩ := row8c HX13.out; clear ht9 hb3; unfold tmV))
  refine bodyPost_ret (results_c rfl _ _ (w.heap.size + 1 + 1) 28 #[.int .i64 v.kind, .int .i64 v.num, .string v.name, .int .i64 v.lv.kind, .int .i64 v.lv.num, .slice q9.A v.lv.kids.length q9.c, .slice q9.B v.ls.length q9.d, .slice q9.K v.kids.length q9.e] (0, 0) _ rfl (set8 HX13.out) Try.underlying28 rfl (by kernel_rfl)) rfl ?_
  exact tm_retF (g := w.heap.size + 1 + 1) HT9.out (chg_set8 w3 (w.heap.size + 1 + 1) (.int .i64 v.kind) (.int .i64 v.num) (.string v.name) (.int .i64 v.lv.kind) (.int .i64 v.lv.num) (.slice q9.A v.lv.kids.length q9.c) (.slice q9.B v.ls.length q9.d) (.slice q9.K v.kids.length q9.e)) (by omega) (by have := HZ.out; omega) HB3.out
theorem rwkP_calls (S S2 : Nat → Prop) (g0 : Nat) (hS : ∀ k, S k → k < g0) (hS2 : ∀ k, S2 k → k < g0) (pv : Pl) (v : Tm) (hv : Bt v) {t : Tm} (ht : Bt t) (p : Pl) (w : World) (hg0 : g0 ≤ w.heap.size) (hin : TmS w S p t) (hinv : TmS w S2 pv v) :
    Calls Try.prog 66 #[chV 1 0 0 pv v, tmV p t, .int .i64 0] w (TmGot w (fun _ => False) (rebP (rpL v) t 0)) := by
  refine rwk_calls 1 0 pv v (rpL v) g0 S (fun W => TmS W S2 pv v) hS (fun W W' h hs => h.same fun k hk _ => hs k (hS2 k hk)) ?_ ht p w hg0 hinv hin
  rintro t w (rfl | rfl) hg h
  · exact leafP_calls S2 g0 hS2 pv v hv w hg h
  · exact leafZ_calls 1 0 pv v plz w (.inr rfl) (zeroT_flat w _)
def dblT (D : Tm) : Tm := if 2 * sizeT D + 1 ≤ 20000 then appT D D else zeroT
theorem dup_reb (D : Tm) : rebP (rpL D) dupT 0 = appT D D := by
  rw [reb_appT, reb_leaf (leafT_var 0)]
  rfl
set_option maxRecDepth 100000 in
set_option maxHeartbeats 8000000 in
theorem refInst_calls (S S2 : Nat → Prop) (g0 : Nat) (hS : ∀ k, S k → k < g0) (hS2 : ∀ k, S2 k → k < g0) (D : Tm) (hB : Bt D) (hD : okT D) (hdd : depthT D ≤ 1000) (p pv : Pl) (w : World) (hg0 : g0 ≤ w.heap.size) (hin : TmS w S p dupT) (hinv : TmS w S2 pv D) :
    Calls Try.prog 18 #[tmV p dupT, tmV pv D] w (TmGot w (fun _ => False) (dblT D)) := by
  obtain ⟨t, ht⟩ : ∃ t, t = dupT := ⟨_, rfl⟩
  rw [← ht] at hin ⊢
  obtain ⟨W, hW⟩ : ∃ W, W = ((w.alloc (tmO p t)).alloc (tmO pv D)).alloc (outK 0 (.slice none 0 0)) := ⟨_, rfl⟩
  have hb : Below w.heap.size w W := by rw [hW]; exact below_alloc (below_alloc (below_alloc (Below.refl _ _) _) _) _
  have HX := Aside0.mk (show W.heap[w.heap.size]? = some (tmO p t) by rw [hW]; exact blk_alloc (box0 w _ _) _)
  have HX1 := Aside0.mk (show W.heap[w.heap.size + 1]? = some (tmO pv D) by rw [hW]; exact blk_alloc (box1 w _ _) _)
  have HX2 := Aside0.mk (show W.heap[w.heap.size + 1 + 1]? = some (outK 0 (.slice none 0 0)) by
    rw [hW]
    have := blk_new ((w.alloc (tmO p t)).alloc (tmO pv D)) (outK 0 (.slice none 0 0))
    simp only [World.size_alloc] at this
    exact this)
  have HB := Aside0.mk hb
  have HZ := Aside0.mk (show W.heap.size = w.heap.size + 3 by rw [hW]; simp)
  have HIN := Aside0.mk (TmS.stay hin hS (hb.mono hg0))
  have HINV := Aside0.mk (TmS.stay hinv hS2 (hb.mono hg0))
  obtain ⟨s, hs⟩ : ∃ s : Int, s = min 20001 (2 * (sizeT D : Int) + 1) := ⟨_, rfl⟩
  have HSZ := Aside0.mk (show ∀ w, TmIn w w.heap.size p t → TmIn w w.heap.size pv D → Calls Try.prog 64 #[tmV p t, tmV pv D] w fun e w' => e = .returned (.int .i64 s) ∧ Below w.heap.size w w' from fun w h h2 => by subst ht; rw [hs]; exact instSize_calls D hD p pv w h h2)
  have HWK := Aside0.mk (show ∀ w, g0 ≤ w.heap.size → TmS w S p t → TmS w S2 pv D → Calls Try.prog 66 #[.agg #[.int .i64 1, .int .i64 0, .int .i64 0, .int .i64 D.kind, .int .i64 D.num, .string D.name, .int .i64 D.lv.kind, .int .i64 D.lv.num, .slice pv.A D.lv.kids.length pv.c, .slice pv.B D.ls.length pv.d, .slice pv.K D.kids.length pv.e, .slice none 0 0], tmV p t, .int .i64 0] w (TmGot w (fun _ => False) (appT D D)) from fun w hg h h2 => by subst ht; rw [← dup_reb]; exact rwkP_calls S S2 g0 hS hS2 pv D hB dup_bt p w hg h h2)
  have HDB := Aside0.mk (show dblT D = if s ≤ 20000 then appT D D else zeroT by
    unfold dblT
    by_cases h : 2 * sizeT D + 1 ≤ 20000
    · rw [if_pos h, if_pos (by omega)]
    · rw [if_neg h, if_neg (by omega)])
  have HOA := Aside0.mk (show s ≤ 20000 → okT (appT D D) from fun h => ⟨by rw [size_appT]; omega, by rw [depth_appT]; omega⟩)
  have hs1 : 1 ≤ s := by omega
  have hs0 : (s == 0) = false := by simp; omega
  have HSS := Aside0.mk hS
  have HSS2 := Aside0.mk hS2
  clear hin hinv hb hs ht hD hB hdd hS hS2
  unfold tmV
  unfold tmO at hW
  go_enter Try.func18, Try.ntmps18
  go_upto_region 1 with (fail)
  rw [← hW]
  clear hW
  go_upto_region 2 with (first
    | (refine wpList_load_row rfl 28 _ rfl (w.heap.size) rfl 28 _ (0, 0) _ HX.out Try.underlying28 rfl (by kernel_rfl) ?_)
    | (refine wpList_load_row rfl 28 _ rfl (w.heap.size + 1) rfl 28 _ (0, 0) _ HX1.out Try.underlying28 rfl (by kernel_rfl) ?_)
    | (go_at_call 64; go_must (refine (HSZ.out W (TmS.mono HIN.out fun k h _ => Nat.lt_of_lt_of_le (HSS.out k h) (Nat.le_trans hg0 HB.out.size)) (TmS.mono HINV.out fun k h _ => Nat.lt_of_lt_of_le (HSS2.out k h) (Nat.le_trans hg0 HB.out.size))).mono ?_; rintro e w1 ⟨rfl, hb⟩; have HX01 := Aside0.mk ((hb.block _ (blk_lt HX.out)).trans HX.out); have HX11 := Aside0.mk ((hb.block _ (blk_lt HX1.out)).trans HX1.out); have HX21 := Aside0.mk ((hb.block _ (blk_lt HX2.out)).trans HX2.out); have HB1 := Aside0.mk (below_then HB.out HB.out.size hb); have HZ1 := Aside0.mk (show w.heap.size + 3 ≤ w1.heap.size by have := hb.size; have := HZ.out; omega); have HIN1 := Aside0.mk (TmS.stay HIN.out HSS.out (hb.mono (Nat.le_trans hg0 HB.out.size))); have HINV1 := Aside0.mk (TmS.stay HINV.out HSS2.out (hb.mono (Nat.le_trans hg0 HB.out.size))); clear hb)))
  by_cases hlt : 20000 < s
  · have HE := Aside0.mk (show dblT D = zeroT by rw [HDB.out, if_neg (by omega)])
    obtain ⟨r0, r1, r2, r3, r4, r5, r6, r7, f0, f1, f2, f3, f4, f5, f6, f7⟩ := row8c HX21.out
    go_wp2
    refine bodyPost_ret (results_c rfl _ _ (w.heap.size + 1 + 1) 28 #[.int .i64 0, .int .i64 0, .string ⟨#[]⟩, .int .i64 0, .int .i64 0, .slice none 0 0, .slice none 0 0, .slice none 0 0] (0, 0) _ rfl (set8 HX21.out) Try.underlying28 rfl (by kernel_rfl)) rfl ?_
    rw [HE.out]
    exact tm_retF (y := zeroT) (q := plz) (g := w.heap.size + 1 + 1) (m := w.heap.size + 3) (zeroT_flat _ _) (chg_set8 w1 (w.heap.size + 1 + 1) (.int .i64 0) (.int .i64 0) (.string ⟨#[]⟩) (.int .i64 0) (.int .i64 0) (.slice none 0 0) (.slice none 0 0) (.slice none 0 0)) (by omega) (by omega) HB1.out
  · have HE := Aside0.mk (show dblT D = appT D D by rw [HDB.out, if_pos (by omega)])
    have hle : s ≤ 20000 := by omega
    have HOK := Aside0.mk (HOA.out hle)
    obtain ⟨y, hy⟩ : ∃ y, y = appT D D := ⟨_, rfl⟩
    rw [← hy] at HE HOK HWK
    clear hy HOA HDB
    go_wp2_with (first
      | (refine wpList_load_row rfl 28 _ rfl (w.heap.size) rfl 28 _ (0, 0) _ HX01.out Try.underlying28 rfl (by kernel_rfl) ?_)
      | (refine wpList_load_row rfl 28 _ rfl (w.heap.size + 1) rfl 28 _ (0, 0) _ HX11.out Try.underlying28 rfl (by kernel_rfl) ?_)
      | (go_at_call 66; go_must (refine (HWK.out w1 (Nat.le_trans hg0 HB1.out.size) HIN1.out HINV1.out).mono ?_; rintro e w2 ⟨q8, rfl, ht8, hb2⟩; have HT8 := Aside0.mk ht8; have HX22 := Aside0.mk ((hb2.block _ (blk_lt HX21.out)).trans HX21.out); have HB2 := Aside0.mk (below_then HB1.out HB1.out.size hb2); clear ht8 hb2; unfold tmV))
      | (go_at_call 65; go_must (refine (fits_calls (fun k => (False ∨ w1.heap.size ≤ k) ∧ k < w2.heap.size) w2.heap.size (fun k h => h.2) HOK.out q8 w2 (Nat.le_refl _) (TmS.mono HT8.out fun k h hz => ⟨h, hz⟩)).mono ?_; rintro e w3 ⟨q9, rfl, ht9, hb3⟩; have HT9 := Aside0.mk ht9; have HX13 := Aside0.mk ((hb3.block _ (blk_lt HX22.out)).trans HX22.out); have HB3 := Aside0.mk (below_then HB2.out HB2.out.size hb3); obtain ⟨r0, r1, r2, r3, r4, r5, r6, r7, f0, f1, f2, f3, f4, f5, f6, f7⟩ := row8c HX13.out; clear ht9 hb3; unfold tmV)))
    refine bodyPost_ret (results_c rfl _ _ (w.heap.size + 1 + 1) 28 #[.int .i64 y.kind, .int .i64 y.num, .string y.name, .int .i64 y.lv.kind, .int .i64 y.lv.num, .slice q9.A y.lv.kids.length q9.c, .slice q9.B y.ls.length q9.d, .slice q9.K y.kids.length q9.e] (0, 0) _ rfl (set8 HX13.out) Try.underlying28 rfl (by kernel_rfl)) rfl ?_
    rw [HE.out]
    exact tm_retF (g := w.heap.size + 1 + 1) (m := w.heap.size + 3) (HT9.out.mono fun k h _ => .inr (by have hz1 := HZ1.out; rcases h with ⟨h, _⟩ | h; (have := h.resolve_left id; omega); (have := HB2.out.size; have := blk_lt HX22.out; omega))) (chg_set8 w3 (w.heap.size + 1 + 1) (.int .i64 y.kind) (.int .i64 y.num) (.string y.name) (.int .i64 y.lv.kind) (.int .i64 y.lv.num) (.slice q9.A y.lv.kids.length q9.c) (.slice q9.B y.ls.length q9.d) (.slice q9.K y.kids.length q9.e)) (by omega) (by omega) HB3.out
end Go.Proofs.Ytdboloabpjmgaaa

/-! DbP -/
namespace Go.Proofs.Ytdboloabpjmgaaa
open Go.RowKit Go.Proofs.YtdboloabpjmgaaaW.PrintWords Go.RegionInvYtdboloabpjmgaaa Go.RegionEYtdboloabpjmgaaa

def DB : Nat → Tm
  | 0 => varT 0
  | k + 1 => dblT (DB k)
theorem db_bt : ∀ k, Bt (DB k)
  | 0 => .var
  | k + 1 => by
    show Bt (dblT (DB k))
    unfold dblT
    split
    · exact .app (db_bt k) (db_bt k)
    · exact .zero
theorem zero_size : sizeT zeroT = 1 := size_leaf rfl
theorem zero_depth : depthT zeroT = 1 := depth_leaf rfl
theorem db_depth : ∀ k, depthT (DB k) ≤ k + 1
  | 0 => by show depthT (varT 0) ≤ _; rw [depth_leaf (leaf_nK (leafT_var 0))]; omega
  | k + 1 => by
    have := db_depth k
    show depthT (dblT (DB k)) ≤ _
    unfold dblT
    split
    · rw [depth_appT]; omega
    · rw [zero_depth]; omega
theorem db_size : ∀ k, sizeT (DB k) ≤ 20000
  | 0 => by show sizeT (varT 0) ≤ _; rw [size_leaf (leaf_nK (leafT_var 0))]; omega
  | k + 1 => by
    show sizeT (dblT (DB k)) ≤ _
    unfold dblT
    split
    · rw [size_appT]; omega
    · rw [zero_size]; omega
theorem db_ok {k : Nat} (h : k ≤ 100) : okT (DB k) := ⟨db_size k, by have := db_depth k; omega⟩
theorem apps_dup : AppsT (varT 0) [varT 0] = dupT := by
  refine (AppsT_ok (f := varT 0) (xs := [varT 0]) (ok_app (nK_var 0) (nK_var 0))).trans ?_
  show ownT (appT (varT 0) (varT 0)) = _
  rw [ownT_ok (ok_app (nK_var 0) (nK_var 0)), appT, reb_app, reb_leaf rfl, nodeP_var rfl]; rfl
theorem lift0_bt {D : Tm} (h : Bt D) : liftT 0 0 D = D := by
  unfold liftT
  exact h.id rfl rfl
theorem inst_dup {D : Tm} (hB : Bt D) (hD : okT D) (hd : depthT D ≤ 1000) : InstT dupT D = dblT D := by
  have hp := size_pos D
  have hS : instS dupT D = 2 * (sizeT D : Int) + 1 := by
    unfold instS
    rw [dup_size, dup_occ]
    omega
  have hR : rebP (instF D) dupT 0 = appT D D := by
    rw [reb_appT, reb_leaf (leafT_var 0), show instF D (varT 0) 0 = liftT 0 0 D from instF_hit rfl rfl, lift0_bt hB]
  unfold dblT
  by_cases h : 2 * sizeT D + 1 ≤ 20000
  · rw [if_pos h, InstT_ok dup_ok hD (by rw [hS]; omega), hR]
    exact fitT_ok ⟨by rw [size_appT]; omega, by rw [depth_appT]; omega⟩
  · rw [if_neg h, InstT_no (fun h2 => h (by have := h2.2.2; rw [hS] at this; omega))]
theorem lift_bt {D : Tm} (hB : Bt D) (hD : okT D) (b : Int) : LiftT D 0 b = rebP (rlL (max (-1048576) (min b 1048576))) D 0 := by
  rw [LiftT_ok hD]
  unfold liftT
  refine Bt.same (F := liftF (max 0 0) (max (-1048576) (min b 1048576))) (G := rlL (max (-1048576) (min b 1048576))) ?_ rfl hB
  show varT (liftN 0 _ 0 0) = varT (max 0 _)
  congr 1
  obtain ⟨c, hc⟩ : ∃ c, max (-1048576) (min b 1048576) = c := ⟨_, rfl⟩
  have h1 : c ≤ 1048576 := by omega
  rw [hc]
  by_cases h : 0 < c
  · rw [liftN_up (by omega) h]; omega
  · rw [liftN_dn (by omega) h]; omega
inductive Bv : Tm → Prop
  | var (n : Int) : Bv (varT n)
  | zero : Bv zeroT
  | app {x y : Tm} (hx : Bv x) (hy : Bv y) : Bv (appT x y)
theorem Bt.bv {t : Tm} (h : Bt t) : Bv t := by
  induction h with
  | var => exact .var 0
  | zero => exact .zero
  | app _ _ i j => exact .app i j
theorem Bt.lifted {t : Tm} (h : Bt t) (c : Int) : Bv (rebP (rlL c) t 0) := by
  induction h with
  | var => rw [reb_leaf (leafT_var 0)]; exact .var _
  | zero => rw [reb_leaf rfl]; exact .zero
  | app _ _ i j => rw [reb_appT]; exact .app i j
theorem near_self {t : Tm} (h : Bv t) : nearT t t = true := by
  induction h with
  | var n =>
    rw [near_leaf (leafT_var n)]
    unfold hnB
    show (decide ((1 : Int) = 1) && (leafR (varT n) == leafR (varT n)) && (leafR (varT n) || decide (n = n))) = true
    simp
  | zero => rw [near_leaf rfl]; rfl
  | @app x y _ _ i j =>
    rw [near_eq, hn_node rfl rfl rfl]
    show (true && (nearT x x && (nearT y y && true))) = true
    rw [i, j]
    rfl
theorem cmp_self {t : Tm} (h : Bv t) : CmpOk t t := by
  induction h with
  | var n => exact .mk (fun h => absurd h (by show ¬ (1 : Int) = 2; decide)) (fun h => absurd h (by show ¬ (1 : Int) = 7; decide)) (fun i => absurd i.2 (by have := nK_var n; omega))
  | zero => exact .mk (fun h => absurd h (by decide)) (fun h => absurd h (by decide)) (fun i => absurd i.2 (by have : nK zeroT = 0 := rfl; omega))
  | @app x y _ _ i j =>
    refine .mk (fun h => absurd h (by show ¬ (6 : Int) = 2; decide)) (fun h => absurd h (by show ¬ (6 : Int) = 7; decide)) ?_
    rintro ⟨k, hk⟩
    match k, hk with
    | 0, _ => exact i
    | 1, _ => exact j
    | k + 2, hk => exact absurd hk (by rw [app_nK]; omega)
theorem alike_self {t : Tm} (h : Bv t) : alikeT t t = true := by
  unfold alikeT
  split
  · exact near_self h
  · simp
end Go.Proofs.Ytdboloabpjmgaaa

/-! Alik -/
namespace Go.Proofs.Ytdboloabpjmgaaa
open Go.RowKit Go.Proofs.YtdboloabpjmgaaaW.PrintWords Go.RegionInvYtdboloabpjmgaaa Go.RegionEYtdboloabpjmgaaa
set_option linter.unusedVariables false
def al2_ops : List Oper := [
  { dst := some 11, op := Go.Op.load 28 (Go.Operand.tmp 2), type := 28, pos := "law.go:56", after := #[], guard := none },
  { dst := some 12, op := Go.Op.call { callee := Go.Callee.value (Go.Operand.func 26), args := #[Go.Operand.tmp 11], argTypes := #[28] }, type := 4, pos := "law.go:56", after := #[{ on := 0, ground := Go.Ground.data }], guard := none },
  { dst := some 13, op := Go.Op.load 28 (Go.Operand.tmp 3), type := 28, pos := "law.go:56", after := #[], guard := none },
  { dst := some 14, op := Go.Op.call { callee := Go.Callee.value (Go.Operand.func 26), args := #[Go.Operand.tmp 13], argTypes := #[28] }, type := 4, pos := "law.go:56", after := #[{ on := 2, ground := Go.Ground.data }, { on := 1, ground := Go.Ground.chain }], guard := none },
  { dst := some 15, op := Go.Op.binOp Go.BinOp.eql 4 (Go.Operand.tmp 12) (Go.Operand.tmp 14) 4, type := 4, pos := "law.go:56", after := #[{ on := 1, ground := Go.Ground.data }, { on := 3, ground := Go.Ground.data }], guard := none },
  { dst := some 4, op := Go.Op.assign (Go.Operand.tmp 15), type := 4, pos := "law.go:56", after := #[{ on := 4, ground := Go.Ground.data }, { on := 3, ground := Go.Ground.chain }, { on := 0, ground := Go.Ground.phase }, { on := 1, ground := Go.Ground.phase }, { on := 2, ground := Go.Ground.phase }, { on := 3, ground := Go.Ground.phase }, { on := 4, ground := Go.Ground.phase }], guard := none }]
def al2_F (w0 : World) (B : Nat) (ga : Nat) (pa : Pl) (ta : Tm) (gb : Nat) (pb : Pl) (tb : Tm) (x y : Bool) : Nat → (Nat → Value) → Value → World → (Nat → Prop) → Prop := fun rix => match rix with
  | 0 => fun _ v _ _ => v = tmV pa ta
  | 1 => fun _ v _ _ => v = .bool x
  | 2 => fun _ v _ _ => v = tmV pb tb
  | 3 => fun _ v _ _ => v = .bool y
  | 4 => fun _ v _ _ => v = .bool (x == y)
  | 5 => fun _ v _ _ => v = .bool (x == y)
  | _ => fun _ _ _ _ => True
def al2_C : Nat → List Nat := fun rix => match rix with
  | _ => []
theorem al2_nw2 : nwB al2_ops.toArray 2 = true := by kernel_rfl
theorem al2_nw3 : nwB al2_ops.toArray 3 = true := by kernel_rfl
set_option maxRecDepth 100000 in
set_option maxHeartbeats 8000000 in
theorem al2_obs (w0 : World) (B : Nat) (ga : Nat) (pa : Pl) (ta : Tm) (gb : Nat) (pb : Pl) (tb : Tm) (x y : Bool) (hB : B ≤ w0.heap.size) (hx2 : w0.heap[ga]? = some (tmO pa ta)) (hin2 : TmIn w0 B pa ta) (hx3 : w0.heap[gb]? = some (tmO pb tb)) (hin3 : TmIn w0 B pb tb) (h1 : (!decide (okT ta)) = x) (h2 : (!decide (okT tb)) = y) (Q : Exit → Act → World → Prop) (a0 : Act) (hi2 : a0.tmps.getD 2 undef = .pointer (some ⟨ga, 0, none⟩)) (hi3 : a0.tmps.getD 3 undef = .pointer (some ⟨gb, 0, none⟩)) :
    ObsE Try.prog al2_ops.toArray Q (est2 0 0 (fun _ => False) (fun _ => False)) al2_C (al2_F w0 B ga pa ta gb pb tb x y) a0 w0 al2_ops.toArray.toList 0 := by
  have nw2 := al2_nw2
  have nw3 := al2_nw3
  refine ⟨?_, ?_, ?_, ?_, ?_, ?_, trivial⟩
  · refine ⟨⟨fun τ => stableE_det _, leans_not⟩, ?_⟩
    intro a w O hk
    have e2 : a.eval (.tmp 2) = .pointer (some ⟨ga, 0, none⟩) := (hk.init 2 (initialB_of_nw nw2)).trans hi2
    have x2 := hk.world.still hx2 (fun ⟨_, h⟩ => h.elim And.right And.right)
    have x3 := hk.world.still hx3 (fun ⟨_, h⟩ => h.elim And.right And.right)
    have hfx : ∀ k, k < B → w.heap[k]? = w0.heap[k]? := fun k hk' => hk.fix k ((fun k hk' => est2_fix (Nat.lt_of_lt_of_le hk' hB) (fun e => e.elim) (fun e => e.elim)) k hk')
    have hsz := hk.world.size
    have y2 := hin2.same (w' := w) (fun k hk' _ => hfx k hk')
    have y3 := hin3.same (w' := w) (fun k hk' _ => hfx k hk')
    exact obE_loadRow rfl e2 x2 Try.underlying28 rfl (by kernel_rfl) (wanted_none rfl) rfl
  · refine ⟨⟨fun τ => stableE_det _, leans_not⟩, ?_⟩
    intro a w O hk
    have e11 : a.eval (.tmp 11) = tmV pa ta := hk.fact 0 _ 11 rfl rfl rfl rfl
    have x2 := hk.world.still hx2 (fun ⟨_, h⟩ => h.elim And.right And.right)
    have x3 := hk.world.still hx3 (fun ⟨_, h⟩ => h.elim And.right And.right)
    have hfx : ∀ k, k < B → w.heap[k]? = w0.heap[k]? := fun k hk' => hk.fix k ((fun k hk' => est2_fix (Nat.lt_of_lt_of_le hk' hB) (fun e => e.elim) (fun e => e.elim)) k hk')
    have hsz := hk.world.size
    have y2 := hin2.same (w' := w) (fun k hk' _ => hfx k hk')
    have y3 := hin3.same (w' := w) (fun k hk' _ => hfx k hk')
    exact obE_callV #[tmV pa ta] rfl rfl rfl rfl (by simp only [List.map_cons, List.map_nil]; rw [e11]; try rfl) (wanted_none rfl) ((tooGreat_calls ta pa w (TmIn.mono y2 (Nat.le_trans hB hsz))).mono fun e w' h => ⟨by rw [h.1, h1], h.2⟩)
  · refine ⟨⟨fun τ => stableE_det _, leans_not⟩, ?_⟩
    intro a w O hk
    have e3 : a.eval (.tmp 3) = .pointer (some ⟨gb, 0, none⟩) := (hk.init 3 (initialB_of_nw nw3)).trans hi3
    have x2 := hk.world.still hx2 (fun ⟨_, h⟩ => h.elim And.right And.right)
    have x3 := hk.world.still hx3 (fun ⟨_, h⟩ => h.elim And.right And.right)
    have hfx : ∀ k, k < B → w.heap[k]? = w0.heap[k]? := fun k hk' => hk.fix k ((fun k hk' => est2_fix (Nat.lt_of_lt_of_le hk' hB) (fun e => e.elim) (fun e => e.elim)) k hk')
    have hsz := hk.world.size
    have y2 := hin2.same (w' := w) (fun k hk' _ => hfx k hk')
    have y3 := hin3.same (w' := w) (fun k hk' _ => hfx k hk')
    exact obE_loadRow rfl e3 x3 Try.underlying28 rfl (by kernel_rfl) (wanted_none rfl) rfl
  · refine ⟨⟨fun τ => stableE_det _, leans_not⟩, ?_⟩
    intro a w O hk
    have e13 : a.eval (.tmp 13) = tmV pb tb := hk.fact 2 _ 13 rfl rfl rfl rfl
    have x2 := hk.world.still hx2 (fun ⟨_, h⟩ => h.elim And.right And.right)
    have x3 := hk.world.still hx3 (fun ⟨_, h⟩ => h.elim And.right And.right)
    have hfx : ∀ k, k < B → w.heap[k]? = w0.heap[k]? := fun k hk' => hk.fix k ((fun k hk' => est2_fix (Nat.lt_of_lt_of_le hk' hB) (fun e => e.elim) (fun e => e.elim)) k hk')
    have hsz := hk.world.size
    have y2 := hin2.same (w' := w) (fun k hk' _ => hfx k hk')
    have y3 := hin3.same (w' := w) (fun k hk' _ => hfx k hk')
    exact obE_callV #[tmV pb tb] rfl rfl rfl rfl (by simp only [List.map_cons, List.map_nil]; rw [e13]; try rfl) (wanted_none rfl) ((tooGreat_calls tb pb w (TmIn.mono y3 (Nat.le_trans hB hsz))).mono fun e w' h => ⟨by rw [h.1, h2], h.2⟩)
  · refine ⟨⟨fun τ => stableE_det _, leans_not⟩, ?_⟩
    intro a w O hk
    have e12 : a.eval (.tmp 12) = .bool x := hk.fact 1 _ 12 rfl rfl rfl rfl
    have e14 : a.eval (.tmp 14) = .bool y := hk.fact 3 _ 14 rfl rfl rfl rfl
    have x2 := hk.world.still hx2 (fun ⟨_, h⟩ => h.elim And.right And.right)
    have x3 := hk.world.still hx3 (fun ⟨_, h⟩ => h.elim And.right And.right)
    have hfx : ∀ k, k < B → w.heap[k]? = w0.heap[k]? := fun k hk' => hk.fix k ((fun k hk' => est2_fix (Nat.lt_of_lt_of_le hk' hB) (fun e => e.elim) (fun e => e.elim)) k hk')
    have hsz := hk.world.size
    have y2 := hin2.same (w' := w) (fun k hk' _ => hfx k hk')
    have y3 := hin3.same (w' := w) (fun k hk' _ => hfx k hk')
    exact toE (ob_eqlBool (x == y) rfl e12 e14 Try.underlying4 rfl (wanted_none rfl) rfl)
  · refine ⟨⟨fun τ => stableE_det _, leans_not⟩, ?_⟩
    intro a w O hk
    have e15 : a.eval (.tmp 15) = .bool (x == y) := hk.fact 4 _ 15 rfl rfl rfl rfl
    exact toE (ob_assign rfl e15 (wanted_none rfl) rfl)
set_option maxRecDepth 100000 in
set_option maxHeartbeats 8000000 in
theorem al2_region {Q : Exit → Act → World → Prop} {id : Nat} (w0 : World) (B : Nat) (ga : Nat) (pa : Pl) (ta : Tm) (gb : Nat) (pb : Pl) (tb : Tm) (x y : Bool) {s0 s1 s4 s5 s6 s7 s8 s9 s10 s11 s12 s13 s14 s15 s16 s17 s18 : Value} (hB : B ≤ w0.heap.size) (hx2 : w0.heap[ga]? = some (tmO pa ta)) (hin2 : TmIn w0 B pa ta) (hx3 : w0.heap[gb]? = some (tmO pb tb)) (hin3 : TmIn w0 B pb tb) (h1 : (!decide (okT ta)) = x) (h2 : (!decide (okT tb)) = y)
    (hend : ∀ (w' : World), Chg (fun k => False ∨ False) w0 w' → Q .normal { tmps := (s0 :: s1 :: (.pointer (some ⟨ga, 0, none⟩)) :: (.pointer (some ⟨gb, 0, none⟩)) :: (.bool (x == y)) :: s5 :: s6 :: s7 :: s8 :: s9 :: s10 :: (tmV pa ta) :: (.bool x) :: (tmV pb tb) :: (.bool y) :: (.bool (x == y)) :: s16 :: s17 :: s18 :: [] : List Value).toArray, defers := [] } w') :
    (Code.region id al2_ops.toArray true).wp Try.prog Q { tmps := (s0 :: s1 :: (.pointer (some ⟨ga, 0, none⟩)) :: (.pointer (some ⟨gb, 0, none⟩)) :: s4 :: s5 :: s6 :: s7 :: s8 :: s9 :: s10 :: s11 :: s12 :: s13 :: s14 :: s15 :: s16 :: s17 :: s18 :: [] : List Value).toArray, defers := [] } w0 := by
  refine wp_region_est (by kernel_rfl) (est2 0 0 (fun _ => False) (fun _ => False)) al2_C (al2_F w0 B ga pa ta gb pb tb x y) (est2_dis (fun _ h _ => h)) (est2_range (fun _ h => h.elim) (fun _ h => h.elim)) (by rfl) (by kernel_rfl) (al2_obs w0.drew B ga pa ta gb pb tb x y hB hx2 (TmS.same hin2 (fun _ _ _ => rfl)) hx3 (TmS.same hin3 (fun _ _ _ => rfl)) h1 h2 _ _ rfl rfl) ?_
  intro a w' O hd hs hb hf hf2 ha hsame
  have hl := slots_eq (ops := al2_ops.toArray) [(4, .bool (x == y)), (11, tmV pa ta), (12, .bool x), (13, tmV pb tb), (14, .bool y), (15, .bool (x == y))] (show a.tmps.size = 19 from hs) (fun i h => hsame i h) ⟨(hf 5 _ 4 rfl rfl (by decide)).1, (hf 0 _ 11 rfl rfl (by decide)).1, (hf 1 _ 12 rfl rfl (by decide)).1, (hf 2 _ 13 rfl rfl (by decide)).1, (hf 3 _ 14 rfl rfl (by decide)).1, (hf 4 _ 15 rfl rfl (by decide)).1, trivial⟩ (by kernel_rfl)
  obtain ⟨tmps, defers⟩ := a
  obtain rfl : defers = [] := hd
  have hl' : tmps = _ := hl
  rw [hl']
  have hb' := est2_chg hb
  refine Eq.mp ?_ (hend w' ⟨hb'.os, hb'.tape, hb'.output, hb'.size, hb'.block⟩)
  kernel_rfl
set_option maxRecDepth 100000 in
set_option maxHeartbeats 4000000 in
theorem alike_calls (t u : Tm) (p q : Pl) (w : World) (hco : okT t → okT u → CmpOk t u) (hin : TmIn w w.heap.size p t) (hin2 : TmIn w w.heap.size q u) :
    Calls Try.prog 22 #[tmV p t, tmV q u] w fun e w' => e = .returned (.bool (alikeT t u)) ∧ Below w.heap.size w w' := by
  have HCO := Aside0.mk hco
  have HIN := Aside0.mk hin
  have HIN2 := Aside0.mk hin2
  obtain ⟨W, hW⟩ : ∃ W, W = (w.alloc (tmO p t)).alloc (tmO q u) := ⟨_, rfl⟩
  have hb : Below w.heap.size w W := by rw [hW]; exact below_alloc (below_alloc (Below.refl _ _) _) _
  have HX := Aside0.mk (show W.heap[w.heap.size]? = some (tmO p t) by rw [hW]; exact box0 w _ _)
  have HY := Aside0.mk (show W.heap[w.heap.size + 1]? = some (tmO q u) by rw [hW]; exact box1 w _ _)
  have HB := Aside0.mk hb
  clear hin hin2 hb hco
  unfold tmV
  unfold tmO at hW
  go_enter Try.func22, Try.ntmps22
  go_upto_region 1 with (fail)
  rw [← hW]
  clear hW
  obtain ⟨ga, hga⟩ : ∃ x, (!decide (okT t)) = x := ⟨_, rfl⟩
  obtain ⟨gb, hgb⟩ : ∃ x, (!decide (okT u)) = x := ⟨_, rfl⟩
  have HG1 := Aside0.mk hga
  have HG2 := Aside0.mk hgb
  have HE := Aside0.mk (show alikeT t u = if ga = false ∧ gb = false then nearT t u else (ga == gb) by
    unfold alikeT
    rw [← hga, ← hgb]
    by_cases h1 : okT t <;> by_cases h2 : okT u <;> simp [h1, h2])
  have HOK := Aside0.mk (show ga = false → gb = false → CmpOk t u from fun h1 h2 => HCO.out (by rw [← hga] at h1; simpa using h1) (by rw [← hgb] at h2; simpa using h2))
  clear hga hgb
  cases ga with
  | true =>
    have HE2 := Aside0.mk (show alikeT t u = (true == gb) by rw [HE.out]; simp)
    go_upto_region 2 with (first
      | (refine wpList_load_row rfl 28 _ rfl (w.heap.size) rfl 28 _ (0, 0) _ HX.out Try.underlying28 rfl (by kernel_rfl) ?_)
      | (go_at_call 26; go_must (refine (tooGreat_calls t p W (below_all HIN.out HB.out)).mono ?_; rintro e w1 ⟨rfl, hb⟩; rw [HG1.out]; have HB1 := Aside0.mk (below_then HB.out HB.out.size hb); have HX1 := Aside0.mk ((hb.block _ (blk_lt HX.out)).trans HX.out); have HY1 := Aside0.mk ((hb.block _ (blk_lt HY.out)).trans HY.out); obtain ⟨y0, y1, y2, y3, y4, y5, y6, y7⟩ := row8 HY1.out; clear hb)))
    refine al2_region w1 w1.heap.size w.heap.size p t (w.heap.size + 1) q u true gb (Nat.le_refl _) HX1.out (below_all HIN.out HB1.out) HY1.out (below_all HIN2.out HB1.out) HG1.out HG2.out ?_
    intro w4 hch
    have HB4 := Aside0.mk (below_then HB1.out HB1.out.size (hch.below (fun _ h => h.elim False.elim False.elim) (Nat.le_refl _)))
    clear hch
    go_wp2
    go_ret
    rw [HE2.out]
    exact ⟨rfl, HB4.out⟩
  | false =>
    cases gb with
    | true =>
      have HE2 := Aside0.mk (show alikeT t u = (false == true) by rw [HE.out]; simp)
      go_upto_region 2 with (first
        | (refine wpList_load_row rfl 28 _ rfl (w.heap.size) rfl 28 _ (0, 0) _ HX.out Try.underlying28 rfl (by kernel_rfl) ?_)
        | (have hgd := HB1; clear hgd; go_at_call 26; go_must (refine (tooGreat_calls u q w1 (below_all HIN2.out HB1.out)).mono ?_; rintro e w2 ⟨rfl, hb⟩; rw [HG2.out]; have HB2 := Aside0.mk (below_then HB1.out HB1.out.size hb); have HX2 := Aside0.mk ((hb.block _ (blk_lt HX1.out)).trans HX1.out); have HY2 := Aside0.mk ((hb.block _ (blk_lt HY1.out)).trans HY1.out); obtain ⟨a0, a1, a2, a3, a4, a5, a6, a7⟩ := row8 HX2.out; obtain ⟨z0, z1, z2, z3, z4, z5, z6, z7⟩ := row8 HY2.out; clear hb))
        | (go_at_call 26; go_must (refine (tooGreat_calls t p W (below_all HIN.out HB.out)).mono ?_; rintro e w1 ⟨rfl, hb⟩; rw [HG1.out]; have HB1 := Aside0.mk (below_then HB.out HB.out.size hb); have HX1 := Aside0.mk ((hb.block _ (blk_lt HX.out)).trans HX.out); have HY1 := Aside0.mk ((hb.block _ (blk_lt HY.out)).trans HY.out); obtain ⟨y0, y1, y2, y3, y4, y5, y6, y7⟩ := row8 HY1.out; clear hb)))
      refine al2_region w2 w2.heap.size w.heap.size p t (w.heap.size + 1) q u false true (Nat.le_refl _) HX2.out (below_all HIN.out HB2.out) HY2.out (below_all HIN2.out HB2.out) HG1.out HG2.out ?_
      intro w4 hch
      have HB4 := Aside0.mk (below_then HB2.out HB2.out.size (hch.below (fun _ h => h.elim False.elim False.elim) (Nat.le_refl _)))
      clear hch
      go_wp2
      go_ret
      rw [HE2.out]
      exact ⟨rfl, HB4.out⟩
    | false =>
      have HE2 := Aside0.mk (show alikeT t u = nearT t u by rw [HE.out]; simp)
      have HCM := Aside0.mk (HOK.out rfl rfl)
      go_wp2_with (first
        | (refine wpList_load_row rfl 28 _ rfl (w.heap.size) rfl 28 _ (0, 0) _ HX.out Try.underlying28 rfl (by kernel_rfl) ?_)
        | (go_at_call 68; go_must (refine (near_calls _ t (Nat.lt_succ_self _) u p q w2 HCM.out (below_all HIN.out HB2.out) (below_all HIN2.out HB2.out)).mono ?_; rintro e w3 ⟨rfl, hb⟩; have HB3 := Aside0.mk (below_then HB2.out HB2.out.size hb); clear hb))
        | (have hgd := HB1; clear hgd; go_at_call 26; go_must (refine (tooGreat_calls u q w1 (below_all HIN2.out HB1.out)).mono ?_; rintro e w2 ⟨rfl, hb⟩; rw [HG2.out]; have HB2 := Aside0.mk (below_then HB1.out HB1.out.size hb); have HX2 := Aside0.mk ((hb.block _ (blk_lt HX1.out)).trans HX1.out); have HY2 := Aside0.mk ((hb.block _ (blk_lt HY1.out)).trans HY1.out); obtain ⟨a0, a1, a2, a3, a4, a5, a6, a7⟩ := row8 HX2.out; obtain ⟨z0, z1, z2, z3, z4, z5, z6, z7⟩ := row8 HY2.out; clear hb))
        | (go_at_call 26; go_must (refine (tooGreat_calls t p W (below_all HIN.out HB.out)).mono ?_; rintro e w1 ⟨rfl, hb⟩; rw [HG1.out]; have HB1 := Aside0.mk (below_then HB.out HB.out.size hb); have HX1 := Aside0.mk ((hb.block _ (blk_lt HX.out)).trans HX.out); have HY1 := Aside0.mk ((hb.block _ (blk_lt HY.out)).trans HY.out); obtain ⟨y0, y1, y2, y3, y4, y5, y6, y7⟩ := row8 HY1.out; clear hb)))
      go_ret
      rw [HE2.out]
      exact ⟨rfl, HB3.out⟩
end Go.Proofs.Ytdboloabpjmgaaa

/-! TDbR -/
namespace Go.Proofs.Ytdboloabpjmgaaa
open Go.RowKit Go.Proofs.YtdboloabpjmgaaaW.PrintWords Go.RegionInvYtdboloabpjmgaaa Go.RegionEYtdboloabpjmgaaa
set_option linter.unusedVariables false

theorem callsF {f : FuncId} {args : Array Value} {w : World} {S : Nat → Prop} {t : Tm} (h : Calls Try.prog f args w (TmGot w (fun _ => False) t)) : Calls Try.prog f args w (TmGot w S t) :=
  h.mono fun e w' ⟨q, h1, h2, h3⟩ => ⟨q, h1, h2.mono fun k h _ => h.elim False.elim .inr, h3⟩
theorem refLiftS_calls (S : Nat → Prop) (g0 : Nat) (hS : ∀ k, S k → k < g0) (b : Int) {t : Tm} (ht : Bt t) (hok : okT t) (p : Pl) (w : World) (hg0 : g0 ≤ w.heap.size) (hin : TmS w S p t) :
    Calls Try.prog 24 #[tmV p t, .int .i64 0, .int .i64 b] w (TmGot w S (LiftT t 0 b)) := by
  rw [lift_bt ht hok]
  exact callsF (refLift_calls S g0 hS b ht hok p w hg0 hin)

def td7_ops : List Oper := [
  { dst := some 24, op := Go.Op.call { callee := Go.Callee.value (Go.Operand.func 15), args := #[Go.Operand.const (Go.Value.int Go.IntKind.i64 0)], argTypes := #[3] }, type := 28, pos := "law.go:124", after := #[], guard := none },
  { dst := some 25, op := Go.Op.call { callee := Go.Callee.value (Go.Operand.func 15), args := #[Go.Operand.const (Go.Value.int Go.IntKind.i64 0)], argTypes := #[3] }, type := 28, pos := "law.go:124", after := #[{ on := 0, ground := Go.Ground.chain }], guard := none },
  { dst := some 26, op := Go.Op.call { callee := Go.Callee.value (Go.Operand.func 19), args := #[Go.Operand.tmp 24, Go.Operand.tmp 25], argTypes := #[28, 28] }, type := 28, pos := "law.go:124", after := #[{ on := 0, ground := Go.Ground.data }, { on := 1, ground := Go.Ground.data }, { on := 1, ground := Go.Ground.chain }], guard := none },
  { dst := some 27, op := Go.Op.load 28 (Go.Operand.tmp 6), type := 28, pos := "law.go:124", after := #[], guard := none },
  { dst := some 28, op := Go.Op.call { callee := Go.Callee.value (Go.Operand.func 18), args := #[Go.Operand.tmp 26, Go.Operand.tmp 27], argTypes := #[28, 28] }, type := 28, pos := "law.go:124", after := #[{ on := 2, ground := Go.Ground.data }, { on := 3, ground := Go.Ground.data }, { on := 2, ground := Go.Ground.chain }], guard := none },
  { dst := none, op := Go.Op.store 28 (Go.Operand.tmp 6) (Go.Operand.tmp 28), type := 0, pos := "law.go:124", after := #[{ on := 4, ground := Go.Ground.data }, { on := 4, ground := Go.Ground.chain }, { on := 0, ground := Go.Ground.phase }, { on := 1, ground := Go.Ground.phase }, { on := 2, ground := Go.Ground.phase }, { on := 3, ground := Go.Ground.phase }, { on := 4, ground := Go.Ground.phase }], guard := none }]
def td7_F (w0 : World) (g : Nat) (SD : Nat → Prop) (p : Pl) (D : Tm) : Nat → (Nat → Value) → Value → World → (Nat → Prop) → Prop := fun rix => match rix with
  | 0 => fun τ v w O => TmO (fun _ => False) (varT 0) v w O
  | 1 => fun τ v w O => TmO (fun _ => False) (varT 0) v w O
  | 2 => fun τ v w O => TmO (fun _ => False) dupT v w O
  | 3 => fun _ v _ _ => v = tmV p D
  | 4 => fun τ v w O => TmO (fun _ => False) (dblT D) v w O
  | 5 => fun τ v w O => ∃ p, (.pointer (some ⟨g, 0, none⟩) : Value) = .pointer (some ⟨p, 0, none⟩) ∧ TmBox p (fun _ => False) (dblT D) w O
  | _ => fun _ _ _ _ => True
def td7_C : Nat → List Nat := fun rix => match rix with
  | 5 => [4]
  | _ => []
theorem td7_nw6 : nwB td7_ops.toArray 6 = true := by kernel_rfl
set_option maxRecDepth 100000 in
set_option maxHeartbeats 8000000 in
theorem td7_obs (w0 : World) (g : Nat) (SD : Nat → Prop) (p : Pl) (D : Tm) (hx : w0.heap[g]? = some (tmO p D)) (hSD : ∀ k, SD k → k < w0.heap.size ∧ k ≠ g) (hin : TmS w0 SD p D) (hB : Bt D) (hD : okT D) (hdd : depthT D ≤ 1000) (Q : Exit → Act → World → Prop) (a0 : Act) (hi6 : a0.tmps.getD 6 undef = .pointer (some ⟨g, 0, none⟩)) :
    ObsE Try.prog td7_ops.toArray Q (est2 5 0 (fun k => k = g) (fun _ => False)) td7_C (td7_F w0 g SD p D) a0 w0 td7_ops.toArray.toList 0 := by
  have nw6 := td7_nw6
  refine ⟨?_, ?_, ?_, ?_, ?_, ?_, trivial⟩
  · refine ⟨⟨fun τ => stableE_tm (fun k h => h.elim), leans_not⟩, ?_⟩
    intro a w O hk
    exact obE_tmCall #[.int .i64 0] rfl rfl rfl rfl (by simp only [List.map_cons, List.map_nil]; try rfl) (wanted_none rfl) ((refvar_calls (fun _ => False) 0 w (by decide)).mono fun e w' ⟨q9, h1, h2, h3⟩ => ⟨q9, h1, h2.mono fun k h _ => h.elim False.elim .inr, h3⟩)
  · refine ⟨⟨fun τ => stableE_tm (fun k h => h.elim), leans_not⟩, ?_⟩
    intro a w O hk
    exact obE_tmCall #[.int .i64 0] rfl rfl rfl rfl (by simp only [List.map_cons, List.map_nil]; try rfl) (wanted_none rfl) ((refvar_calls (fun _ => False) 0 w (by decide)).mono fun e w' ⟨q9, h1, h2, h3⟩ => ⟨q9, h1, h2.mono fun k h _ => h.elim False.elim .inr, h3⟩)
  · refine ⟨⟨fun τ => stableE_tm (fun k h => h.elim), leans_not⟩, ?_⟩
    intro a w O hk
    have f24 := hk.fact 0 _ 24 rfl rfl rfl rfl
    have g24 := hk.owns 0 rfl rfl
    have f25 := hk.fact 1 _ 25 rfl rfl rfl rfl
    have g25 := hk.owns 1 rfl rfl
    obtain ⟨q24, z24, h24⟩ := f24
    replace z24 : a.eval (.tmp 24) = _ := z24
    obtain ⟨q25, z25, h25⟩ := f25
    replace z25 : a.eval (.tmp 25) = _ := z25
    exact obE_tmCall #[tmV q24 (varT 0), tmV q25 (varT 0)] rfl rfl rfl rfl (by simp only [List.map_cons, List.map_nil]; rw [z24, z25]) (wanted_none rfl) ((refapp_calls (fun _ => False) 0 (fun k h => h.elim) q24 (varT 0) q25 (varT 0) w (Nat.zero_le _) (h24.any rfl rfl rfl) (h25.any rfl rfl rfl)).mono fun e w' ⟨q9, h1, h2, h3⟩ => ⟨q9, h1, h2.mono fun k h _ => h.elim False.elim .inr, h3⟩)
  · refine ⟨⟨fun τ => stableE_det _, leans_not⟩, ?_⟩
    intro a w O hk
    have e6 : a.eval (.tmp 6) = .pointer (some ⟨g, 0, none⟩) := (hk.init 6 (initialB_of_nw nw6)).trans hi6
    have x6 := (hk.est 5 _ rfl (.inr rfl) g (.inl ⟨rfl, rfl⟩)).trans hx
    exact obE_loadRow rfl e6 x6 Try.underlying28 rfl (by kernel_rfl) (wanted_none rfl) rfl
  · refine ⟨⟨fun τ => stableE_tm (fun k h => h.elim), leans_not⟩, ?_⟩
    intro a w O hk
    have f26 := hk.fact 2 _ 26 rfl rfl rfl rfl
    have g26 := hk.owns 2 rfl rfl
    have e27 : a.eval (.tmp 27) = tmV p D := hk.fact 3 _ 27 rfl rfl rfl rfl
    obtain ⟨q26, z26, h26⟩ := f26
    replace z26 : a.eval (.tmp 26) = _ := z26
    have hsz := hk.world.size
    exact obE_tmCall #[tmV q26 dupT, tmV p D] rfl rfl rfl rfl (by simp only [List.map_cons, List.map_nil]; rw [z26, e27]) (wanted_none rfl) ((refInst_calls (fun k => False ∨ O 2 k) SD w.heap.size (fun k h => h.elim False.elim fun h => (g26 k h).1) (fun k h => Nat.lt_of_lt_of_le (hSD k h).1 hsz) D hB hD hdd q26 p w (Nat.le_refl _) h26 (hin.same fun k hk' _ => (fun k hk' => hk.fix k (est2_fix (hSD k hk').1 (fun e => (hSD k hk').2 e) (fun e => e.elim))) k hk')).mono fun e w' ⟨q9, h1, h2, h3⟩ => ⟨q9, h1, h2.mono fun k h _ => h.elim False.elim .inr, h3⟩)
  · refine ⟨⟨fun τ => stableE_ex fun p v w w' O h hz hk => ⟨h.1, stableE_tmbox (fun k h => h.elim) v w w' O h.2 hz hk⟩, leans_not⟩, ?_⟩
    intro a w O hk
    have e6 : a.eval (.tmp 6) = .pointer (some ⟨g, 0, none⟩) := (hk.init 6 (initialB_of_nw nw6)).trans hi6
    have f28 := hk.fact 4 _ 28 rfl rfl rfl rfl
    have g28 := hk.owns 4 rfl rfl
    have x6 := (hk.est 5 _ rfl (.inl rfl) g (.inl ⟨rfl, rfl⟩)).trans hx
    exact obE_tmPut (T := (fun _ => False)) rfl (wanted_none rfl) e6 x6 f28 (.inr (.inl ⟨rfl, rfl⟩)) (fun k h => .inl ⟨4, by simp [td7_C], h⟩) (fun h => h) (hk.away 5 4 _ rfl (.inl rfl) rfl rfl g (.inl ⟨rfl, rfl⟩)) rfl
set_option maxRecDepth 100000 in
set_option maxHeartbeats 8000000 in
theorem td7_region {Q : Exit → Act → World → Prop} {id : Nat} (w0 : World) (g : Nat) (SD : Nat → Prop) (p : Pl) (D : Tm) {s0 s1 s2 s3 s4 s5 s7 s8 s9 s10 s11 s12 s13 s14 s15 s16 s17 s18 s19 s20 s21 s22 s23 s24 s25 s26 s27 s28 s29 s30 s31 s32 s33 s34 s35 s36 s37 s38 s39 s40 s41 s42 s43 s44 s45 s46 s47 s48 s49 s50 : Value} (hx : w0.heap[g]? = some (tmO p D)) (hSD : ∀ k, SD k → k < w0.heap.size ∧ k ≠ g) (hin : TmS w0 SD p D) (hB : Bt D) (hD : okT D) (hdd : depthT D ≤ 1000)
    (hend : ∀ (w' : World) (u24 : Value) (u25 : Value) (u26 : Value) (u28 : Value) (O0 : Nat → Prop) (O1 : Nat → Prop) (O2 : Nat → Prop) (v5 : Value) (O5 : Nat → Prop), Chg (fun k => (fun k => k = g) k ∨ (fun _ => False) k) w0 w' → (TmO (fun _ => False) (varT 0) u24 w' O0) → (∀ k, O0 k → k < w'.heap.size ∧ ¬ Fix w0 (est2 5 0 (fun k => k = g) (fun _ => False)) k) → (TmO (fun _ => False) (varT 0) u25 w' O1) → (∀ k, O1 k → k < w'.heap.size ∧ ¬ Fix w0 (est2 5 0 (fun k => k = g) (fun _ => False)) k) → (TmO (fun _ => False) dupT u26 w' O2) → (∀ k, O2 k → k < w'.heap.size ∧ ¬ Fix w0 (est2 5 0 (fun k => k = g) (fun _ => False)) k) → (∃ p, (.pointer (some ⟨g, 0, none⟩) : Value) = .pointer (some ⟨p, 0, none⟩) ∧ TmBox p (fun _ => False) (dblT D) w' O5) → (∀ k, O5 k → k < w'.heap.size ∧ ¬ Fix w0 (est2 5 0 (fun k => k = g) (fun _ => False)) k) → Q .normal { tmps := (s0 :: s1 :: s2 :: s3 :: s4 :: s5 :: (.pointer (some ⟨g, 0, none⟩)) :: s7 :: s8 :: s9 :: s10 :: s11 :: s12 :: s13 :: s14 :: s15 :: s16 :: s17 :: s18 :: s19 :: s20 :: s21 :: s22 :: s23 :: u24 :: u25 :: u26 :: (tmV p D) :: u28 :: s29 :: s30 :: s31 :: s32 :: s33 :: s34 :: s35 :: s36 :: s37 :: s38 :: s39 :: s40 :: s41 :: s42 :: s43 :: s44 :: s45 :: s46 :: s47 :: s48 :: s49 :: s50 :: [] : List Value).toArray, defers := [] } w') :
    (Code.region id td7_ops.toArray true).wp Try.prog Q { tmps := (s0 :: s1 :: s2 :: s3 :: s4 :: s5 :: (.pointer (some ⟨g, 0, none⟩)) :: s7 :: s8 :: s9 :: s10 :: s11 :: s12 :: s13 :: s14 :: s15 :: s16 :: s17 :: s18 :: s19 :: s20 :: s21 :: s22 :: s23 :: s24 :: s25 :: s26 :: s27 :: s28 :: s29 :: s30 :: s31 :: s32 :: s33 :: s34 :: s35 :: s36 :: s37 :: s38 :: s39 :: s40 :: s41 :: s42 :: s43 :: s44 :: s45 :: s46 :: s47 :: s48 :: s49 :: s50 :: [] : List Value).toArray, defers := [] } w0 := by
  refine wp_region_est (by kernel_rfl) (est2 5 0 (fun k => k = g) (fun _ => False)) td7_C (td7_F w0 g SD p D) (est2_dis (fun _ _ h => h)) (est2_range (fun k hk => hk ▸ blk_lt hx) (fun _ h => h.elim)) (by rfl) (by kernel_rfl) (td7_obs w0.drew g SD p D hx hSD (TmS.same hin (fun _ _ _ => rfl)) hB hD hdd _ _ rfl) ?_
  intro a w' O hd hs hb hf hf2 ha hsame
  have hl := slots_eq (ops := td7_ops.toArray) [(24, a.tmps.getD 24 undef), (25, a.tmps.getD 25 undef), (26, a.tmps.getD 26 undef), (27, tmV p D), (28, a.tmps.getD 28 undef)] (show a.tmps.size = 51 from hs) (fun i h => hsame i h) ⟨rfl, rfl, rfl, (hf 3 _ 27 rfl rfl (by decide)).1, rfl, trivial⟩ (by kernel_rfl)
  obtain ⟨tmps, defers⟩ := a
  obtain rfl : defers = [] := hd
  have hl' : tmps = _ := hl
  rw [hl']
  obtain ⟨⟨v5, hv5⟩, ho5⟩ := hf2 5 _ rfl rfl (by decide)
  have hb' := est2_chg hb
  refine Eq.mp ?_ (hend w' (tmps.getD 24 undef) (tmps.getD 25 undef) (tmps.getD 26 undef) (tmps.getD 28 undef) (O 0) (O 1) (O 2) v5 (O 5) ⟨hb'.os, hb'.tape, hb'.output, hb'.size, hb'.block⟩ (hf 0 _ 24 rfl rfl (by decide)).1 (hf 0 _ 24 rfl rfl (by decide)).2 (hf 1 _ 25 rfl rfl (by decide)).1 (hf 1 _ 25 rfl rfl (by decide)).2 (hf 2 _ 26 rfl rfl (by decide)).1 (hf 2 _ 26 rfl rfl (by decide)).2 hv5 ho5)
  kernel_rfl

def td8_ops : List Oper := [
  { dst := some 29, op := Go.Op.load 28 (Go.Operand.tmp 5), type := 28, pos := "law.go:125", after := #[], guard := none },
  { dst := some 30, op := Go.Op.call { callee := Go.Callee.value (Go.Operand.func 20), args := #[Go.Operand.tmp 29], argTypes := #[28] }, type := 3, pos := "law.go:125", after := #[{ on := 0, ground := Go.Ground.data }], guard := none },
  { dst := some 31, op := Go.Op.load 28 (Go.Operand.tmp 6), type := 28, pos := "law.go:125", after := #[], guard := none },
  { dst := some 32, op := Go.Op.call { callee := Go.Callee.value (Go.Operand.func 21), args := #[Go.Operand.tmp 31], argTypes := #[28] }, type := 3, pos := "law.go:125", after := #[{ on := 2, ground := Go.Ground.data }, { on := 1, ground := Go.Ground.chain }], guard := none },
  { dst := some 33, op := Go.Op.binOp Go.BinOp.neq 3 (Go.Operand.tmp 30) (Go.Operand.tmp 32) 3, type := 4, pos := "law.go:125", after := #[{ on := 1, ground := Go.Ground.data }, { on := 3, ground := Go.Ground.data }], guard := none },
  { dst := some 34, op := Go.Op.move (Go.Operand.tmp 33), type := 4, pos := "law.go:125", after := #[{ on := 4, ground := Go.Ground.data }, { on := 3, ground := Go.Ground.chain }], guard := none },
  { dst := some 35, op := Go.Op.load 28 (Go.Operand.tmp 5), type := 28, pos := "law.go:125", after := #[{ on := 5, ground := Go.Ground.guard }], guard := some (5, false) },
  { dst := some 36, op := Go.Op.load 28 (Go.Operand.tmp 6), type := 28, pos := "law.go:125", after := #[{ on := 5, ground := Go.Ground.guard }], guard := some (5, false) },
  { dst := some 37, op := Go.Op.call { callee := Go.Callee.value (Go.Operand.func 22), args := #[Go.Operand.tmp 35, Go.Operand.tmp 36], argTypes := #[28, 28] }, type := 4, pos := "law.go:125", after := #[{ on := 6, ground := Go.Ground.data }, { on := 7, ground := Go.Ground.data }, { on := 5, ground := Go.Ground.chain }, { on := 5, ground := Go.Ground.guard }], guard := some (5, false) },
  { dst := some 38, op := Go.Op.unOp Go.UnOp.not 4 (Go.Operand.tmp 37), type := 4, pos := "law.go:125", after := #[{ on := 8, ground := Go.Ground.data }, { on := 5, ground := Go.Ground.guard }], guard := some (5, false) },
  { dst := some 39, op := Go.Op.pick (Go.Operand.tmp 34) (Go.Operand.const (Go.Value.bool true)) (Go.Operand.tmp 38), type := 4, pos := "law.go:125", after := #[{ on := 5, ground := Go.Ground.data }, { on := 9, ground := Go.Ground.data }], guard := none }]
def td8_F (w0 : World) (B : Nat) (ga : Nat) (pa : Pl) (ta : Tm) (gb : Nat) (pb : Pl) (tb : Tm) (sz : Int) : Nat → (Nat → Value) → Value → World → (Nat → Prop) → Prop := fun rix => match rix with
  | 0 => fun _ v _ _ => v = tmV pa ta
  | 1 => fun _ v _ _ => v = .int .i64 sz
  | 2 => fun _ v _ _ => v = tmV pb tb
  | 3 => fun _ v _ _ => v = .int .i64 sz
  | 4 => fun _ v _ _ => v = .bool false
  | 5 => fun _ v _ _ => v = .bool false
  | 6 => fun _ v _ _ => v = tmV pa ta
  | 7 => fun _ v _ _ => v = tmV pb tb
  | 8 => fun _ v _ _ => v = .bool true
  | 9 => fun _ v _ _ => v = .bool false
  | 10 => fun _ v _ _ => v = .bool false
  | _ => fun _ _ _ _ => True
def td8_C : Nat → List Nat := fun rix => match rix with
  | _ => []
theorem td8_nw5 : nwB td8_ops.toArray 5 = true := by kernel_rfl
theorem td8_nw6 : nwB td8_ops.toArray 6 = true := by kernel_rfl
set_option maxRecDepth 100000 in
set_option maxHeartbeats 8000000 in
theorem td8_obs (w0 : World) (B : Nat) (ga : Nat) (pa : Pl) (ta : Tm) (gb : Nat) (pb : Pl) (tb : Tm) (sz : Int) (hB : B ≤ w0.heap.size) (hx5 : w0.heap[ga]? = some (tmO pa ta)) (hin5 : TmIn w0 B pa ta) (hx6 : w0.heap[gb]? = some (tmO pb tb)) (hin6 : TmIn w0 B pb tb) (hsa : (measP ta).1 = sz) (hsb : (measP tb).1 = sz) (hco : CmpOk ta tb) (hal : alikeT ta tb = true) (Q : Exit → Act → World → Prop) (a0 : Act) (hi5 : a0.tmps.getD 5 undef = .pointer (some ⟨ga, 0, none⟩)) (hi6 : a0.tmps.getD 6 undef = .pointer (some ⟨gb, 0, none⟩)) :
    ObsE Try.prog td8_ops.toArray Q (est2 0 0 (fun _ => False) (fun _ => False)) td8_C (td8_F w0 B ga pa ta gb pb tb sz) a0 w0 td8_ops.toArray.toList 0 := by
  have nw5 := td8_nw5
  have nw6 := td8_nw6
  refine ⟨?_, ?_, ?_, ?_, ?_, ?_, ?_, ?_, ?_, ?_, ?_, trivial⟩
  · refine ⟨⟨fun τ => stableE_det _, leans_not⟩, ?_⟩
    intro a w O hk
    have e5 : a.eval (.tmp 5) = .pointer (some ⟨ga, 0, none⟩) := (hk.init 5 (initialB_of_nw nw5)).trans hi5
    have x5 := hk.world.still hx5 (fun ⟨_, h⟩ => h.elim And.right And.right)
    have x6 := hk.world.still hx6 (fun ⟨_, h⟩ => h.elim And.right And.right)
    have hfx : ∀ k, k < B → w.heap[k]? = w0.heap[k]? := fun k hk' => hk.fix k ((fun k hk' => est2_fix (Nat.lt_of_lt_of_le hk' hB) (fun e => e.elim) (fun e => e.elim)) k hk')
    have hsz := hk.world.size
    have y5 := hin5.same (w' := w) (fun k hk' _ => hfx k hk')
    have y6 := hin6.same (w' := w) (fun k hk' _ => hfx k hk')
    exact obE_loadRow rfl e5 x5 Try.underlying28 rfl (by kernel_rfl) (wanted_none rfl) rfl
  · refine ⟨⟨fun τ => stableE_det _, leans_not⟩, ?_⟩
    intro a w O hk
    have e29 : a.eval (.tmp 29) = tmV pa ta := hk.fact 0 _ 29 rfl rfl rfl rfl
    have x5 := hk.world.still hx5 (fun ⟨_, h⟩ => h.elim And.right And.right)
    have x6 := hk.world.still hx6 (fun ⟨_, h⟩ => h.elim And.right And.right)
    have hfx : ∀ k, k < B → w.heap[k]? = w0.heap[k]? := fun k hk' => hk.fix k ((fun k hk' => est2_fix (Nat.lt_of_lt_of_le hk' hB) (fun e => e.elim) (fun e => e.elim)) k hk')
    have hsz := hk.world.size
    have y5 := hin5.same (w' := w) (fun k hk' _ => hfx k hk')
    have y6 := hin6.same (w' := w) (fun k hk' _ => hfx k hk')
    exact obE_callV #[tmV pa ta] rfl rfl rfl rfl (by simp only [List.map_cons, List.map_nil]; rw [e29]; try rfl) (wanted_none rfl) ((size_calls ta pa w (TmIn.mono y5 (Nat.le_trans hB hsz))).mono fun e w' h => ⟨by rw [h.1, hsa], h.2⟩)
  · refine ⟨⟨fun τ => stableE_det _, leans_not⟩, ?_⟩
    intro a w O hk
    have e6 : a.eval (.tmp 6) = .pointer (some ⟨gb, 0, none⟩) := (hk.init 6 (initialB_of_nw nw6)).trans hi6
    have x5 := hk.world.still hx5 (fun ⟨_, h⟩ => h.elim And.right And.right)
    have x6 := hk.world.still hx6 (fun ⟨_, h⟩ => h.elim And.right And.right)
    have hfx : ∀ k, k < B → w.heap[k]? = w0.heap[k]? := fun k hk' => hk.fix k ((fun k hk' => est2_fix (Nat.lt_of_lt_of_le hk' hB) (fun e => e.elim) (fun e => e.elim)) k hk')
    have hsz := hk.world.size
    have y5 := hin5.same (w' := w) (fun k hk' _ => hfx k hk')
    have y6 := hin6.same (w' := w) (fun k hk' _ => hfx k hk')
    exact obE_loadRow rfl e6 x6 Try.underlying28 rfl (by kernel_rfl) (wanted_none rfl) rfl
  · refine ⟨⟨fun τ => stableE_det _, leans_not⟩, ?_⟩
    intro a w O hk
    have e31 : a.eval (.tmp 31) = tmV pb tb := hk.fact 2 _ 31 rfl rfl rfl rfl
    have x5 := hk.world.still hx5 (fun ⟨_, h⟩ => h.elim And.right And.right)
    have x6 := hk.world.still hx6 (fun ⟨_, h⟩ => h.elim And.right And.right)
    have hfx : ∀ k, k < B → w.heap[k]? = w0.heap[k]? := fun k hk' => hk.fix k ((fun k hk' => est2_fix (Nat.lt_of_lt_of_le hk' hB) (fun e => e.elim) (fun e => e.elim)) k hk')
    have hsz := hk.world.size
    have y5 := hin5.same (w' := w) (fun k hk' _ => hfx k hk')
    have y6 := hin6.same (w' := w) (fun k hk' _ => hfx k hk')
    exact obE_callV #[tmV pb tb] rfl rfl rfl rfl (by simp only [List.map_cons, List.map_nil]; rw [e31]; try rfl) (wanted_none rfl) ((refSize_calls tb pb w (TmIn.mono y6 (Nat.le_trans hB hsz))).mono fun e w' h => ⟨by rw [h.1, hsb], h.2⟩)
  · refine ⟨⟨fun τ => stableE_det _, leans_not⟩, ?_⟩
    intro a w O hk
    have e30 : a.eval (.tmp 30) = .int .i64 sz := hk.fact 1 _ 30 rfl rfl rfl rfl
    have e32 : a.eval (.tmp 32) = .int .i64 sz := hk.fact 3 _ 32 rfl rfl rfl rfl
    have x5 := hk.world.still hx5 (fun ⟨_, h⟩ => h.elim And.right And.right)
    have x6 := hk.world.still hx6 (fun ⟨_, h⟩ => h.elim And.right And.right)
    have hfx : ∀ k, k < B → w.heap[k]? = w0.heap[k]? := fun k hk' => hk.fix k ((fun k hk' => est2_fix (Nat.lt_of_lt_of_le hk' hB) (fun e => e.elim) (fun e => e.elim)) k hk')
    have hsz := hk.world.size
    have y5 := hin5.same (w' := w) (fun k hk' _ => hfx k hk')
    have y6 := hin6.same (w' := w) (fun k hk' _ => hfx k hk')
    exact obE_run (wanted_none rfl) (by unfold execOp; simp only []; rw [e30, e32]; go_simp <;> simp) rfl
  · refine ⟨⟨fun τ => stableE_det _, leans_not⟩, ?_⟩
    intro a w O hk
    have e33 : a.eval (.tmp 33) = .bool false := hk.fact 4 _ 33 rfl rfl rfl rfl
    exact toE (ob_move rfl e33 (wanted_none rfl) rfl)
  · refine ⟨⟨fun τ => stableE_det _, leans_not⟩, ?_⟩
    intro a w O hk
    have e5 : a.eval (.tmp 5) = .pointer (some ⟨ga, 0, none⟩) := (hk.init 5 (initialB_of_nw nw5)).trans hi5
    have e34 : a.eval (.tmp 34) = .bool false := hk.fact 5 _ 34 rfl rfl rfl rfl
    have x5 := hk.world.still hx5 (fun ⟨_, h⟩ => h.elim And.right And.right)
    have x6 := hk.world.still hx6 (fun ⟨_, h⟩ => h.elim And.right And.right)
    have hfx : ∀ k, k < B → w.heap[k]? = w0.heap[k]? := fun k hk' => hk.fix k ((fun k hk' => est2_fix (Nat.lt_of_lt_of_le hk' hB) (fun e => e.elim) (fun e => e.elim)) k hk')
    have hsz := hk.world.size
    have y5 := hin5.same (w' := w) (fun k hk' _ => hfx k hk')
    have y6 := hin6.same (w' := w) (fun k hk' _ => hfx k hk')
    exact obE_loadRow rfl e5 x5 Try.underlying28 rfl (by kernel_rfl) (wanted_of rfl rfl rfl e34) rfl
  · refine ⟨⟨fun τ => stableE_det _, leans_not⟩, ?_⟩
    intro a w O hk
    have e6 : a.eval (.tmp 6) = .pointer (some ⟨gb, 0, none⟩) := (hk.init 6 (initialB_of_nw nw6)).trans hi6
    have e34 : a.eval (.tmp 34) = .bool false := hk.fact 5 _ 34 rfl rfl rfl rfl
    have x5 := hk.world.still hx5 (fun ⟨_, h⟩ => h.elim And.right And.right)
    have x6 := hk.world.still hx6 (fun ⟨_, h⟩ => h.elim And.right And.right)
    have hfx : ∀ k, k < B → w.heap[k]? = w0.heap[k]? := fun k hk' => hk.fix k ((fun k hk' => est2_fix (Nat.lt_of_lt_of_le hk' hB) (fun e => e.elim) (fun e => e.elim)) k hk')
    have hsz := hk.world.size
    have y5 := hin5.same (w' := w) (fun k hk' _ => hfx k hk')
    have y6 := hin6.same (w' := w) (fun k hk' _ => hfx k hk')
    exact obE_loadRow rfl e6 x6 Try.underlying28 rfl (by kernel_rfl) (wanted_of rfl rfl rfl e34) rfl
  · refine ⟨⟨fun τ => stableE_det _, leans_not⟩, ?_⟩
    intro a w O hk
    have e35 : a.eval (.tmp 35) = tmV pa ta := hk.fact 6 _ 35 rfl rfl rfl rfl
    have e36 : a.eval (.tmp 36) = tmV pb tb := hk.fact 7 _ 36 rfl rfl rfl rfl
    have e34 : a.eval (.tmp 34) = .bool false := hk.fact 5 _ 34 rfl rfl rfl rfl
    have x5 := hk.world.still hx5 (fun ⟨_, h⟩ => h.elim And.right And.right)
    have x6 := hk.world.still hx6 (fun ⟨_, h⟩ => h.elim And.right And.right)
    have hfx : ∀ k, k < B → w.heap[k]? = w0.heap[k]? := fun k hk' => hk.fix k ((fun k hk' => est2_fix (Nat.lt_of_lt_of_le hk' hB) (fun e => e.elim) (fun e => e.elim)) k hk')
    have hsz := hk.world.size
    have y5 := hin5.same (w' := w) (fun k hk' _ => hfx k hk')
    have y6 := hin6.same (w' := w) (fun k hk' _ => hfx k hk')
    exact obE_callV #[tmV pa ta, tmV pb tb] rfl rfl rfl rfl (by simp only [List.map_cons, List.map_nil]; rw [e35, e36]; try rfl) (wanted_of rfl rfl rfl e34) ((alike_calls ta tb pa pb w (fun _ _ => hco) (TmIn.mono y5 (Nat.le_trans hB hsz)) (TmIn.mono y6 (Nat.le_trans hB hsz))).mono fun e w' h => ⟨by rw [h.1, hal], h.2⟩)
  · refine ⟨⟨fun τ => stableE_det _, leans_not⟩, ?_⟩
    intro a w O hk
    have e37 : a.eval (.tmp 37) = .bool true := hk.fact 8 _ 37 rfl rfl rfl rfl
    have e34 : a.eval (.tmp 34) = .bool false := hk.fact 5 _ 34 rfl rfl rfl rfl
    have x5 := hk.world.still hx5 (fun ⟨_, h⟩ => h.elim And.right And.right)
    have x6 := hk.world.still hx6 (fun ⟨_, h⟩ => h.elim And.right And.right)
    have hfx : ∀ k, k < B → w.heap[k]? = w0.heap[k]? := fun k hk' => hk.fix k ((fun k hk' => est2_fix (Nat.lt_of_lt_of_le hk' hB) (fun e => e.elim) (fun e => e.elim)) k hk')
    have hsz := hk.world.size
    have y5 := hin5.same (w' := w) (fun k hk' _ => hfx k hk')
    have y6 := hin6.same (w' := w) (fun k hk' _ => hfx k hk')
    exact obE_run (wanted_of rfl rfl rfl e34) (by unfold execOp; simp only []; rw [e37]; go_simp) rfl
  · refine ⟨⟨fun τ => stableE_det _, leans_not⟩, ?_⟩
    intro a w O hk
    have e34 : a.eval (.tmp 34) = .bool false := hk.fact 5 _ 34 rfl rfl rfl rfl
    have e38 : a.eval (.tmp 38) = .bool false := hk.fact 9 _ 38 rfl rfl rfl rfl
    exact toE (ob_pick rfl e34 e38 (wanted_none rfl) rfl)
set_option maxRecDepth 100000 in
set_option maxHeartbeats 8000000 in
theorem td8_region {Q : Exit → Act → World → Prop} {id : Nat} (w0 : World) (B : Nat) (ga : Nat) (pa : Pl) (ta : Tm) (gb : Nat) (pb : Pl) (tb : Tm) (sz : Int) {s0 s1 s2 s3 s4 s7 s8 s9 s10 s11 s12 s13 s14 s15 s16 s17 s18 s19 s20 s21 s22 s23 s24 s25 s26 s27 s28 s29 s30 s31 s32 s33 s34 s35 s36 s37 s38 s39 s40 s41 s42 s43 s44 s45 s46 s47 s48 s49 s50 : Value} (hB : B ≤ w0.heap.size) (hx5 : w0.heap[ga]? = some (tmO pa ta)) (hin5 : TmIn w0 B pa ta) (hx6 : w0.heap[gb]? = some (tmO pb tb)) (hin6 : TmIn w0 B pb tb) (hsa : (measP ta).1 = sz) (hsb : (measP tb).1 = sz) (hco : CmpOk ta tb) (hal : alikeT ta tb = true)
    (hend : ∀ (w' : World), Chg (fun k => False ∨ False) w0 w' → Q .normal { tmps := (s0 :: s1 :: s2 :: s3 :: s4 :: (.pointer (some ⟨ga, 0, none⟩)) :: (.pointer (some ⟨gb, 0, none⟩)) :: s7 :: s8 :: s9 :: s10 :: s11 :: s12 :: s13 :: s14 :: s15 :: s16 :: s17 :: s18 :: s19 :: s20 :: s21 :: s22 :: s23 :: s24 :: s25 :: s26 :: s27 :: s28 :: (tmV pa ta) :: (.int .i64 sz) :: (tmV pb tb) :: (.int .i64 sz) :: (.bool false) :: (.bool false) :: (tmV pa ta) :: (tmV pb tb) :: (.bool true) :: (.bool false) :: (.bool false) :: s40 :: s41 :: s42 :: s43 :: s44 :: s45 :: s46 :: s47 :: s48 :: s49 :: s50 :: [] : List Value).toArray, defers := [] } w') :
    (Code.region id td8_ops.toArray true).wp Try.prog Q { tmps := (s0 :: s1 :: s2 :: s3 :: s4 :: (.pointer (some ⟨ga, 0, none⟩)) :: (.pointer (some ⟨gb, 0, none⟩)) :: s7 :: s8 :: s9 :: s10 :: s11 :: s12 :: s13 :: s14 :: s15 :: s16 :: s17 :: s18 :: s19 :: s20 :: s21 :: s22 :: s23 :: s24 :: s25 :: s26 :: s27 :: s28 :: s29 :: s30 :: s31 :: s32 :: s33 :: s34 :: s35 :: s36 :: s37 :: s38 :: s39 :: s40 :: s41 :: s42 :: s43 :: s44 :: s45 :: s46 :: s47 :: s48 :: s49 :: s50 :: [] : List Value).toArray, defers := [] } w0 := by
  refine wp_region_est (by kernel_rfl) (est2 0 0 (fun _ => False) (fun _ => False)) td8_C (td8_F w0 B ga pa ta gb pb tb sz) (est2_dis (fun _ h _ => h)) (est2_range (fun _ h => h.elim) (fun _ h => h.elim)) (by rfl) (by kernel_rfl) (td8_obs w0.drew B ga pa ta gb pb tb sz hB hx5 (TmS.same hin5 (fun _ _ _ => rfl)) hx6 (TmS.same hin6 (fun _ _ _ => rfl)) hsa hsb hco hal _ _ rfl rfl) ?_
  intro a w' O hd hs hb hf hf2 ha hsame
  have hl := slots_eq (ops := td8_ops.toArray) [(29, tmV pa ta), (30, .int .i64 sz), (31, tmV pb tb), (32, .int .i64 sz), (33, .bool false), (34, .bool false), (35, tmV pa ta), (36, tmV pb tb), (37, .bool true), (38, .bool false), (39, .bool false)] (show a.tmps.size = 51 from hs) (fun i h => hsame i h) ⟨(hf 0 _ 29 rfl rfl (by decide)).1, (hf 1 _ 30 rfl rfl (by decide)).1, (hf 2 _ 31 rfl rfl (by decide)).1, (hf 3 _ 32 rfl rfl (by decide)).1, (hf 4 _ 33 rfl rfl (by decide)).1, (hf 5 _ 34 rfl rfl (by decide)).1, (hf 6 _ 35 rfl rfl (by decide)).1, (hf 7 _ 36 rfl rfl (by decide)).1, (hf 8 _ 37 rfl rfl (by decide)).1, (hf 9 _ 38 rfl rfl (by decide)).1, (hf 10 _ 39 rfl rfl (by decide)).1, trivial⟩ (by kernel_rfl)
  obtain ⟨tmps, defers⟩ := a
  obtain rfl : defers = [] := hd
  have hl' : tmps = _ := hl
  rw [hl']
  have hb' := est2_chg hb
  refine Eq.mp ?_ (hend w' ⟨hb'.os, hb'.tape, hb'.output, hb'.size, hb'.block⟩)
  kernel_rfl

def td11_ops : List Oper := [
  { dst := some 41, op := Go.Op.load 28 (Go.Operand.tmp 5), type := 28, pos := "law.go:129", after := #[], guard := none },
  { dst := some 42, op := Go.Op.move (Go.Operand.tmp 1), type := 3, pos := "law.go:129", after := #[], guard := none },
  { dst := some 43, op := Go.Op.call { callee := Go.Callee.value (Go.Operand.func 23), args := #[Go.Operand.tmp 41, Go.Operand.const (Go.Value.int Go.IntKind.i64 0), Go.Operand.tmp 42], argTypes := #[28, 3, 3] }, type := 28, pos := "law.go:129", after := #[{ on := 0, ground := Go.Ground.data }, { on := 1, ground := Go.Ground.data }], guard := none },
  { dst := some 44, op := Go.Op.load 28 (Go.Operand.tmp 6), type := 28, pos := "law.go:129", after := #[], guard := none },
  { dst := some 45, op := Go.Op.move (Go.Operand.tmp 1), type := 3, pos := "law.go:129", after := #[], guard := none },
  { dst := some 46, op := Go.Op.call { callee := Go.Callee.value (Go.Operand.func 24), args := #[Go.Operand.tmp 44, Go.Operand.const (Go.Value.int Go.IntKind.i64 0), Go.Operand.tmp 45], argTypes := #[28, 3, 3] }, type := 28, pos := "law.go:129", after := #[{ on := 3, ground := Go.Ground.data }, { on := 4, ground := Go.Ground.data }, { on := 2, ground := Go.Ground.chain }], guard := none },
  { dst := some 47, op := Go.Op.call { callee := Go.Callee.value (Go.Operand.func 22), args := #[Go.Operand.tmp 43, Go.Operand.tmp 46], argTypes := #[28, 28] }, type := 4, pos := "law.go:129", after := #[{ on := 2, ground := Go.Ground.data }, { on := 5, ground := Go.Ground.data }, { on := 5, ground := Go.Ground.chain }], guard := none },
  { dst := some 48, op := Go.Op.move (Go.Operand.tmp 47), type := 4, pos := "law.go:129", after := #[{ on := 6, ground := Go.Ground.data }, { on := 6, ground := Go.Ground.chain }], guard := none },
  { dst := some 49, op := Go.Op.call { callee := Go.Callee.value (Go.Operand.func 25), args := #[], argTypes := #[] }, type := 4, pos := "law.go:129", after := #[{ on := 7, ground := Go.Ground.chain }, { on := 7, ground := Go.Ground.guard }], guard := some (7, true) },
  { dst := some 50, op := Go.Op.pick (Go.Operand.tmp 48) (Go.Operand.tmp 49) (Go.Operand.const (Go.Value.bool false)), type := 4, pos := "law.go:129", after := #[{ on := 7, ground := Go.Ground.data }, { on := 8, ground := Go.Ground.data }], guard := none },
  { dst := some 4, op := Go.Op.assign (Go.Operand.tmp 50), type := 4, pos := "law.go:129", after := #[{ on := 9, ground := Go.Ground.data }, { on := 8, ground := Go.Ground.chain }, { on := 0, ground := Go.Ground.phase }, { on := 1, ground := Go.Ground.phase }, { on := 2, ground := Go.Ground.phase }, { on := 3, ground := Go.Ground.phase }, { on := 4, ground := Go.Ground.phase }, { on := 5, ground := Go.Ground.phase }, { on := 6, ground := Go.Ground.phase }, { on := 7, ground := Go.Ground.phase }, { on := 8, ground := Go.Ground.phase }, { on := 9, ground := Go.Ground.phase }], guard := none }]
def td11_F (w0 : World) (B : Nat) (ga : Nat) (pa : Pl) (ta : Tm) (gb : Nat) (pb : Pl) (tb : Tm) (by_ : Int) : Nat → (Nat → Value) → Value → World → (Nat → Prop) → Prop := fun rix => match rix with
  | 0 => fun _ v _ _ => v = tmV pa ta
  | 1 => fun _ v _ _ => v = .int .i64 by_
  | 2 => fun τ v w O => TmO (fun k => k < B) (LiftT ta 0 by_) v w O
  | 3 => fun _ v _ _ => v = tmV pb tb
  | 4 => fun _ v _ _ => v = .int .i64 by_
  | 5 => fun τ v w O => TmO (fun k => k < B) (LiftT tb 0 by_) v w O
  | 6 => fun _ v _ _ => v = .bool true
  | 7 => fun _ v _ _ => v = .bool true
  | 8 => fun _ v _ _ => v = .bool true
  | 9 => fun _ v _ _ => v = .bool true
  | 10 => fun _ v _ _ => v = .bool true
  | _ => fun _ _ _ _ => True
def td11_C : Nat → List Nat := fun rix => match rix with
  | _ => []
theorem td11_nw1 : nwB td11_ops.toArray 1 = true := by kernel_rfl
theorem td11_nw5 : nwB td11_ops.toArray 5 = true := by kernel_rfl
theorem td11_nw6 : nwB td11_ops.toArray 6 = true := by kernel_rfl
set_option maxRecDepth 100000 in
set_option maxHeartbeats 8000000 in
theorem td11_obs (w0 : World) (B : Nat) (ga : Nat) (pa : Pl) (ta : Tm) (gb : Nat) (pb : Pl) (tb : Tm) (by_ : Int) (hB : B ≤ w0.heap.size) (hx5 : w0.heap[ga]? = some (tmO pa ta)) (hin5 : TmIn w0 B pa ta) (hx6 : w0.heap[gb]? = some (tmO pb tb)) (hin6 : TmIn w0 B pb tb) (hbt : Bt tb) (hok : okT tb) (hco : CmpOk (LiftT ta 0 by_) (LiftT tb 0 by_)) (hal : alikeT (LiftT ta 0 by_) (LiftT tb 0 by_) = true) (Q : Exit → Act → World → Prop) (a0 : Act) (hi1 : a0.tmps.getD 1 undef = .int .i64 by_) (hi5 : a0.tmps.getD 5 undef = .pointer (some ⟨ga, 0, none⟩)) (hi6 : a0.tmps.getD 6 undef = .pointer (some ⟨gb, 0, none⟩)) :
    ObsE Try.prog td11_ops.toArray Q (est2 0 0 (fun _ => False) (fun _ => False)) td11_C (td11_F w0 B ga pa ta gb pb tb by_) a0 w0 td11_ops.toArray.toList 0 := by
  have nw1 := td11_nw1
  have nw5 := td11_nw5
  have nw6 := td11_nw6
  refine ⟨?_, ?_, ?_, ?_, ?_, ?_, ?_, ?_, ?_, ?_, ?_, trivial⟩
  · refine ⟨⟨fun τ => stableE_det _, leans_not⟩, ?_⟩
    intro a w O hk
    have e5 : a.eval (.tmp 5) = .pointer (some ⟨ga, 0, none⟩) := (hk.init 5 (initialB_of_nw nw5)).trans hi5
    have x5 := hk.world.still hx5 (fun ⟨_, h⟩ => h.elim And.right And.right)
    have x6 := hk.world.still hx6 (fun ⟨_, h⟩ => h.elim And.right And.right)
    have hfx : ∀ k, k < B → w.heap[k]? = w0.heap[k]? := fun k hk' => hk.fix k ((fun k hk' => est2_fix (Nat.lt_of_lt_of_le hk' hB) (fun e => e.elim) (fun e => e.elim)) k hk')
    have hsz := hk.world.size
    have y5 := hin5.same (w' := w) (fun k hk' _ => hfx k hk')
    have y6 := hin6.same (w' := w) (fun k hk' _ => hfx k hk')
    exact obE_loadRow rfl e5 x5 Try.underlying28 rfl (by kernel_rfl) (wanted_none rfl) rfl
  · refine ⟨⟨fun τ => stableE_det _, leans_not⟩, ?_⟩
    intro a w O hk
    have e1 : a.eval (.tmp 1) = .int .i64 by_ := (hk.init 1 (initialB_of_nw nw1)).trans hi1
    exact toE (ob_move rfl e1 (wanted_none rfl) rfl)
  · refine ⟨⟨fun τ => stableE_tm (fun k hk' => est2_fix (Nat.lt_of_lt_of_le hk' hB) (fun e => e.elim) (fun e => e.elim)), leans_not⟩, ?_⟩
    intro a w O hk
    have e41 : a.eval (.tmp 41) = tmV pa ta := hk.fact 0 _ 41 rfl rfl rfl rfl
    have e42 : a.eval (.tmp 42) = .int .i64 by_ := hk.fact 1 _ 42 rfl rfl rfl rfl
    have x5 := hk.world.still hx5 (fun ⟨_, h⟩ => h.elim And.right And.right)
    have x6 := hk.world.still hx6 (fun ⟨_, h⟩ => h.elim And.right And.right)
    have hfx : ∀ k, k < B → w.heap[k]? = w0.heap[k]? := fun k hk' => hk.fix k ((fun k hk' => est2_fix (Nat.lt_of_lt_of_le hk' hB) (fun e => e.elim) (fun e => e.elim)) k hk')
    have hsz := hk.world.size
    have y5 := hin5.same (w' := w) (fun k hk' _ => hfx k hk')
    have y6 := hin6.same (w' := w) (fun k hk' _ => hfx k hk')
    exact obE_tmCall #[tmV pa ta, .int .i64 0, .int .i64 by_] rfl rfl rfl rfl (by simp only [List.map_cons, List.map_nil]; rw [e41, e42]; try rfl) (wanted_none rfl) ((LiftS_calls (fun k => k < B) w.heap.size (fun k h => Nat.lt_of_lt_of_le h (Nat.le_trans hB hsz)) (0) (by_) ta pa w (Nat.le_refl _) (TmS.mono y5 fun k h _ => h)).mono fun e w' ⟨q9, h1, h2, h3⟩ => ⟨q9, h1, h2.mono fun k h _ => h.elim (fun h => .inl (.inl h)) .inr, h3⟩)
  · refine ⟨⟨fun τ => stableE_det _, leans_not⟩, ?_⟩
    intro a w O hk
    have e6 : a.eval (.tmp 6) = .pointer (some ⟨gb, 0, none⟩) := (hk.init 6 (initialB_of_nw nw6)).trans hi6
    have x5 := hk.world.still hx5 (fun ⟨_, h⟩ => h.elim And.right And.right)
    have x6 := hk.world.still hx6 (fun ⟨_, h⟩ => h.elim And.right And.right)
    have hfx : ∀ k, k < B → w.heap[k]? = w0.heap[k]? := fun k hk' => hk.fix k ((fun k hk' => est2_fix (Nat.lt_of_lt_of_le hk' hB) (fun e => e.elim) (fun e => e.elim)) k hk')
    have hsz := hk.world.size
    have y5 := hin5.same (w' := w) (fun k hk' _ => hfx k hk')
    have y6 := hin6.same (w' := w) (fun k hk' _ => hfx k hk')
    exact obE_loadRow rfl e6 x6 Try.underlying28 rfl (by kernel_rfl) (wanted_none rfl) rfl
  · refine ⟨⟨fun τ => stableE_det _, leans_not⟩, ?_⟩
    intro a w O hk
    have e1 : a.eval (.tmp 1) = .int .i64 by_ := (hk.init 1 (initialB_of_nw nw1)).trans hi1
    exact toE (ob_move rfl e1 (wanted_none rfl) rfl)
  · refine ⟨⟨fun τ => stableE_tm (fun k hk' => est2_fix (Nat.lt_of_lt_of_le hk' hB) (fun e => e.elim) (fun e => e.elim)), leans_not⟩, ?_⟩
    intro a w O hk
    have e44 : a.eval (.tmp 44) = tmV pb tb := hk.fact 3 _ 44 rfl rfl rfl rfl
    have e45 : a.eval (.tmp 45) = .int .i64 by_ := hk.fact 4 _ 45 rfl rfl rfl rfl
    have x5 := hk.world.still hx5 (fun ⟨_, h⟩ => h.elim And.right And.right)
    have x6 := hk.world.still hx6 (fun ⟨_, h⟩ => h.elim And.right And.right)
    have hfx : ∀ k, k < B → w.heap[k]? = w0.heap[k]? := fun k hk' => hk.fix k ((fun k hk' => est2_fix (Nat.lt_of_lt_of_le hk' hB) (fun e => e.elim) (fun e => e.elim)) k hk')
    have hsz := hk.world.size
    have y5 := hin5.same (w' := w) (fun k hk' _ => hfx k hk')
    have y6 := hin6.same (w' := w) (fun k hk' _ => hfx k hk')
    exact obE_tmCall #[tmV pb tb, .int .i64 0, .int .i64 by_] rfl rfl rfl rfl (by simp only [List.map_cons, List.map_nil]; rw [e44, e45]; try rfl) (wanted_none rfl) ((refLiftS_calls (fun k => k < B) w.heap.size (fun k h => Nat.lt_of_lt_of_le h (Nat.le_trans hB hsz)) by_ hbt hok pb w (Nat.le_refl _) (TmS.mono y6 fun k h _ => h)).mono fun e w' ⟨q9, h1, h2, h3⟩ => ⟨q9, h1, h2.mono fun k h _ => h.elim (fun h => .inl (.inl h)) .inr, h3⟩)
  · refine ⟨⟨fun τ => stableE_det _, leans_not⟩, ?_⟩
    intro a w O hk
    have f43 := hk.fact 2 _ 43 rfl rfl rfl rfl
    have g43 := hk.owns 2 rfl rfl
    have f46 := hk.fact 5 _ 46 rfl rfl rfl rfl
    have g46 := hk.owns 5 rfl rfl
    have x5 := hk.world.still hx5 (fun ⟨_, h⟩ => h.elim And.right And.right)
    have x6 := hk.world.still hx6 (fun ⟨_, h⟩ => h.elim And.right And.right)
    have hfx : ∀ k, k < B → w.heap[k]? = w0.heap[k]? := fun k hk' => hk.fix k ((fun k hk' => est2_fix (Nat.lt_of_lt_of_le hk' hB) (fun e => e.elim) (fun e => e.elim)) k hk')
    have hsz := hk.world.size
    have y5 := hin5.same (w' := w) (fun k hk' _ => hfx k hk')
    have y6 := hin6.same (w' := w) (fun k hk' _ => hfx k hk')
    obtain ⟨q43, z43, h43⟩ := f43
    replace z43 : a.eval (.tmp 43) = _ := z43
    obtain ⟨q46, z46, h46⟩ := f46
    replace z46 : a.eval (.tmp 46) = _ := z46
    exact obE_callV #[tmV q43 (LiftT ta 0 by_), tmV q46 (LiftT tb 0 by_)] rfl rfl rfl rfl (by simp only [List.map_cons, List.map_nil]; rw [z43, z46]; try rfl) (wanted_none rfl) ((alike_calls (LiftT ta 0 by_) (LiftT tb 0 by_) q43 q46 w (fun _ _ => hco) (TmS.all h43) (TmS.all h46)).mono fun e w' h => ⟨by rw [h.1, hal], h.2⟩)
  · refine ⟨⟨fun τ => stableE_det _, leans_not⟩, ?_⟩
    intro a w O hk
    have e47 : a.eval (.tmp 47) = .bool true := hk.fact 6 _ 47 rfl rfl rfl rfl
    exact toE (ob_move rfl e47 (wanted_none rfl) rfl)
  · refine ⟨⟨fun τ => stableE_det _, leans_not⟩, ?_⟩
    intro a w O hk
    have e48 : a.eval (.tmp 48) = .bool true := hk.fact 7 _ 48 rfl rfl rfl rfl
    have x5 := hk.world.still hx5 (fun ⟨_, h⟩ => h.elim And.right And.right)
    have x6 := hk.world.still hx6 (fun ⟨_, h⟩ => h.elim And.right And.right)
    have hfx : ∀ k, k < B → w.heap[k]? = w0.heap[k]? := fun k hk' => hk.fix k ((fun k hk' => est2_fix (Nat.lt_of_lt_of_le hk' hB) (fun e => e.elim) (fun e => e.elim)) k hk')
    have hsz := hk.world.size
    have y5 := hin5.same (w' := w) (fun k hk' _ => hfx k hk')
    have y6 := hin6.same (w' := w) (fun k hk' _ => hfx k hk')
    exact obE_callV #[] rfl rfl rfl rfl rfl (wanted_of rfl rfl rfl e48) (awake_calls w)
  · refine ⟨⟨fun τ => stableE_det _, leans_not⟩, ?_⟩
    intro a w O hk
    have e48 : a.eval (.tmp 48) = .bool true := hk.fact 7 _ 48 rfl rfl rfl rfl
    have e49 : a.eval (.tmp 49) = .bool true := hk.fact 8 _ 49 rfl rfl rfl rfl
    exact toE (ob_pick rfl e48 e49 (wanted_none rfl) rfl)
  · refine ⟨⟨fun τ => stableE_det _, leans_not⟩, ?_⟩
    intro a w O hk
    have e50 : a.eval (.tmp 50) = .bool true := hk.fact 9 _ 50 rfl rfl rfl rfl
    exact toE (ob_assign rfl e50 (wanted_none rfl) rfl)
set_option maxRecDepth 100000 in
set_option maxHeartbeats 8000000 in
theorem td11_region {Q : Exit → Act → World → Prop} {id : Nat} (w0 : World) (B : Nat) (ga : Nat) (pa : Pl) (ta : Tm) (gb : Nat) (pb : Pl) (tb : Tm) (by_ : Int) {s0 s2 s3 s4 s7 s8 s9 s10 s11 s12 s13 s14 s15 s16 s17 s18 s19 s20 s21 s22 s23 s24 s25 s26 s27 s28 s29 s30 s31 s32 s33 s34 s35 s36 s37 s38 s39 s40 s41 s42 s43 s44 s45 s46 s47 s48 s49 s50 : Value} (hB : B ≤ w0.heap.size) (hx5 : w0.heap[ga]? = some (tmO pa ta)) (hin5 : TmIn w0 B pa ta) (hx6 : w0.heap[gb]? = some (tmO pb tb)) (hin6 : TmIn w0 B pb tb) (hbt : Bt tb) (hok : okT tb) (hco : CmpOk (LiftT ta 0 by_) (LiftT tb 0 by_)) (hal : alikeT (LiftT ta 0 by_) (LiftT tb 0 by_) = true)
    (hend : ∀ (w' : World) (u43 : Value) (u46 : Value) (O2 : Nat → Prop) (O5 : Nat → Prop), Chg (fun k => False ∨ False) w0 w' → (TmO (fun k => k < B) (LiftT ta 0 by_) u43 w' O2) → (∀ k, O2 k → k < w'.heap.size ∧ ¬ Fix w0 (est2 0 0 (fun _ => False) (fun _ => False)) k) → (TmO (fun k => k < B) (LiftT tb 0 by_) u46 w' O5) → (∀ k, O5 k → k < w'.heap.size ∧ ¬ Fix w0 (est2 0 0 (fun _ => False) (fun _ => False)) k) → Q .normal { tmps := (s0 :: (.int .i64 by_) :: s2 :: s3 :: (.bool true) :: (.pointer (some ⟨ga, 0, none⟩)) :: (.pointer (some ⟨gb, 0, none⟩)) :: s7 :: s8 :: s9 :: s10 :: s11 :: s12 :: s13 :: s14 :: s15 :: s16 :: s17 :: s18 :: s19 :: s20 :: s21 :: s22 :: s23 :: s24 :: s25 :: s26 :: s27 :: s28 :: s29 :: s30 :: s31 :: s32 :: s33 :: s34 :: s35 :: s36 :: s37 :: s38 :: s39 :: s40 :: (tmV pa ta) :: (.int .i64 by_) :: u43 :: (tmV pb tb) :: (.int .i64 by_) :: u46 :: (.bool true) :: (.bool true) :: (.bool true) :: (.bool true) :: [] : List Value).toArray, defers := [] } w') :
    (Code.region id td11_ops.toArray true).wp Try.prog Q { tmps := (s0 :: (.int .i64 by_) :: s2 :: s3 :: s4 :: (.pointer (some ⟨ga, 0, none⟩)) :: (.pointer (some ⟨gb, 0, none⟩)) :: s7 :: s8 :: s9 :: s10 :: s11 :: s12 :: s13 :: s14 :: s15 :: s16 :: s17 :: s18 :: s19 :: s20 :: s21 :: s22 :: s23 :: s24 :: s25 :: s26 :: s27 :: s28 :: s29 :: s30 :: s31 :: s32 :: s33 :: s34 :: s35 :: s36 :: s37 :: s38 :: s39 :: s40 :: s41 :: s42 :: s43 :: s44 :: s45 :: s46 :: s47 :: s48 :: s49 :: s50 :: [] : List Value).toArray, defers := [] } w0 := by
  refine wp_region_est (by kernel_rfl) (est2 0 0 (fun _ => False) (fun _ => False)) td11_C (td11_F w0 B ga pa ta gb pb tb by_) (est2_dis (fun _ h _ => h)) (est2_range (fun _ h => h.elim) (fun _ h => h.elim)) (by rfl) (by kernel_rfl) (td11_obs w0.drew B ga pa ta gb pb tb by_ hB hx5 (TmS.same hin5 (fun _ _ _ => rfl)) hx6 (TmS.same hin6 (fun _ _ _ => rfl)) hbt hok hco hal _ _ rfl rfl rfl) ?_
  intro a w' O hd hs hb hf hf2 ha hsame
  have hl := slots_eq (ops := td11_ops.toArray) [(4, .bool true), (41, tmV pa ta), (42, .int .i64 by_), (43, a.tmps.getD 43 undef), (44, tmV pb tb), (45, .int .i64 by_), (46, a.tmps.getD 46 undef), (47, .bool true), (48, .bool true), (49, .bool true), (50, .bool true)] (show a.tmps.size = 51 from hs) (fun i h => hsame i h) ⟨(hf 10 _ 4 rfl rfl (by decide)).1, (hf 0 _ 41 rfl rfl (by decide)).1, (hf 1 _ 42 rfl rfl (by decide)).1, rfl, (hf 3 _ 44 rfl rfl (by decide)).1, (hf 4 _ 45 rfl rfl (by decide)).1, rfl, (hf 6 _ 47 rfl rfl (by decide)).1, (hf 7 _ 48 rfl rfl (by decide)).1, (hf 8 _ 49 rfl rfl (by decide)).1, (hf 9 _ 50 rfl rfl (by decide)).1, trivial⟩ (by kernel_rfl)
  obtain ⟨tmps, defers⟩ := a
  obtain rfl : defers = [] := hd
  have hl' : tmps = _ := hl
  rw [hl']
  have hb' := est2_chg hb
  refine Eq.mp ?_ (hend w' (tmps.getD 43 undef) (tmps.getD 46 undef) (O 2) (O 5) ⟨hb'.os, hb'.tape, hb'.output, hb'.size, hb'.block⟩ (hf 2 _ 43 rfl rfl (by decide)).1 (hf 2 _ 43 rfl rfl (by decide)).2 (hf 5 _ 46 rfl rfl (by decide)).1 (hf 5 _ 46 rfl rfl (by decide)).2)
  kernel_rfl

end Go.Proofs.Ytdboloabpjmgaaa

/-! LawTD -/
namespace Go.Proofs.Ytdboloabpjmgaaa
open Go.RowKit Go.Proofs.YtdboloabpjmgaaaW.PrintWords Go.RegionInvYtdboloabpjmgaaa Go.RegionEYtdboloabpjmgaaa

structure DbS (W : World) (g5 : Nat) (p5 p6 : Pl) (D E : Tm) : Prop where
  x5 : W.heap[g5]? = some (tmO p5 D)
  x6 : W.heap[g5 + 1]? = some (tmO p6 E)
  i5 : TmS W (fun k => k ≠ g5 ∧ k ≠ g5 + 1) p5 D
  i6 : TmS W (fun k => k ≠ g5 ∧ k ≠ g5 + 1) p6 E
theorem DbS.later {W W' : World} {g5 : Nat} {p5 p6 : Pl} {D E : Tm} (h : DbS W g5 p5 p6 D E) (hb : Below W.heap.size W W') : DbS W' g5 p5 p6 D E :=
  ⟨(hb.block _ (blk_lt h.x5)).trans h.x5, (hb.block _ (blk_lt h.x6)).trans h.x6, h.i5.same fun k _ hz => hb.block k hz, h.i6.same fun k _ hz => hb.block k hz⟩
theorem mod18 (n : Int) : ∃ m : Nat, wrap64 ((IntKind.u64.wrap n).tmod 18) = (m : Int) ∧ m ≤ 17 := by
  have h0 : 0 ≤ IntKind.u64.wrap n := by
    show 0 ≤ n % _
    exact Int.emod_nonneg _ (by decide)
  have h1 : (IntKind.u64.wrap n).tmod 18 = (IntKind.u64.wrap n) % 18 := Int.tmod_eq_emod_of_nonneg h0
  obtain ⟨x, hx⟩ : ∃ x, IntKind.u64.wrap n = x := ⟨_, rfl⟩
  rw [h1]
  rw [hx] at h0 ⊢
  refine ⟨(x % 18).toNat, ?_, by omega⟩
  unfold wrap64
  omega
theorem one_row0 {w : World} {g : Nat} {p : Pl} {t : Tm} (h : w.heap[g]? = some (tmO p t)) (ht : TmIn w 0 p t) : TmsAt w 0 (some ⟨g, 0, none⟩) (fun _ => p) [t] := fun i x hx => by
  refine ⟨(one_row h (TmIn.mono ht (Nat.zero_le _)) i x hx).1, ?_⟩
  have : t = x := by
    cases i with
    | zero => simpa using hx
    | succ j => simp at hx
  exact this ▸ ht
set_option maxRecDepth 100000 in
set_option maxHeartbeats 8000000 in
theorem termDoubles_calls (n by_ : Int) (w : World) : Calls Try.prog 3 #[.int .i64 n, .int .i64 by_] w fun e w' => e = .returned (.bool true) ∧ Below w.heap.size w w' := by
  obtain ⟨v0, hv0⟩ : ∃ x, x = varT 0 := ⟨_, rfl⟩
  obtain ⟨d, hd⟩ : ∃ x, x = dupT := ⟨_, rfl⟩
  have HV14 := Aside0.mk (show ∀ w, Calls Try.prog 14 #[.int .i64 0] w (TmGot w (fun _ => False) v0) from fun w => by rw [hv0]; exact tvarS_calls (fun _ => False) 0 w (by decide))
  have HV15 := Aside0.mk (show ∀ w, Calls Try.prog 15 #[.int .i64 0] w (TmGot w (fun _ => False) v0) from fun w => by rw [hv0]; exact refvar_calls (fun _ => False) 0 w (by decide))
  have HANY := Aside0.mk (show ∀ {w w' : World} {S S' : Nat → Prop} {q : Pl}, TmS w S q v0 → TmS w' S' q v0 from fun h => h.any (by rw [hv0]; rfl) (by rw [hv0]; rfl) (by rw [hv0]; rfl))
  have HAPP := Aside0.mk (show AppsT v0 [v0] = d by rw [hv0, hd]; exact apps_dup)
  have HINS := Aside0.mk (show ∀ D, Bt D → okT D → depthT D ≤ 1000 → InstT d D = dblT D from fun D h1 h2 h3 => by rw [hd]; exact inst_dup h1 h2 h3)
  have HV0 := Aside0.mk (show v0 = DB 0 from hv0)
  clear hv0 hd
  go_enter Try.func3, Try.ntmps3
  go_upto_region 2 with (fail)
  obtain ⟨m, hm, hm17⟩ := mod18 n
  simp only [hm]
  clear hm
  go_upto_region 3 with (first
    | (go_at_call 14; go_must (refine (HV14.out w).mono ?_; rintro e w1 ⟨q1, rfl, ht, hb⟩; have HT1 := Aside0.mk ht; have HB1 := Aside0.mk hb; clear ht hb; unfold tmV))
    | (go_at_call 15; go_must (refine (HV15.out w1).mono ?_; rintro e w2 ⟨q2, rfl, ht, hb⟩; have HT2 := Aside0.mk ht; have HB2 := Aside0.mk (below_then HB1.out HB1.out.size hb); clear ht hb; unfold tmV)))
  obtain ⟨W0, hW0⟩ : ∃ W0, W0 = (w2.alloc (tmO q1 v0)).alloc (tmO q2 v0) := ⟨_, rfl⟩
  have hbw : Below w.heap.size w W0 := by rw [hW0]; exact (HB2.out.alloc HB2.out.size _).alloc (by simp; have := HB2.out.size; omega) _
  have hdb : DbS W0 w2.heap.size q1 q2 v0 v0 := by
    rw [hW0]
    exact ⟨box0 _ _ _, box1 _ _ _, HANY.out HT1.out, HANY.out HT2.out⟩
  have HG5 := Aside0.mk HB2.out.size
  have HBW := Aside0.mk hbw
  have HDB := Aside0.mk hdb
  unfold tmO at hW0
  rw [← hW0]
  clear hW0 hbw hdb HB1 HB2 HT1 HT2
  obtain ⟨g5, hg5⟩ : ∃ g5, w2.heap.size = g5 := ⟨_, rfl⟩
  rw [hg5] at HDB HG5 ⊢
  clear hg5
  rw [HV0.out] at HDB
  go_wp2
  go_loopw [15] (fun i wr => ∃ (k : Nat) (p5 p6 : Pl), i = .int .i64 k ∧ k ≤ m ∧ Aside0 (DbS wr g5 p5 p6 (DB k) (DB k)) ∧ Aside0 (Below w.heap.size w wr)) (fun i _ => m - (intOf i).toNat)
  case atStart => exact ⟨0, q1, q2, rfl, Nat.zero_le _, HDB, HBW⟩
  case round =>
    obtain ⟨k, p5, p6, rfl, hk, HDR, HBR⟩ := hrel
    clear HDB HBW
    have HBT := Aside0.mk (db_bt k)
    have HOK := Aside0.mk (db_ok (k := k) (by omega))
    have HDD := Aside0.mk (show depthT (DB k) ≤ 1000 by have := db_depth k; omega)
    have HNX := Aside0.mk (show DB (k + 1) = dblT (DB k) from rfl)
    have HBN := Aside0.mk (db_bt (k + 1))
    have HOKN := Aside0.mk (db_ok (k := k + 1) (by omega))
    obtain ⟨D, hD⟩ : ∃ D, D = DB k := ⟨_, rfl⟩
    rw [← hD] at HDR HBT HOK HDD HNX
    obtain ⟨y, hy⟩ : ∃ y, y = DB (k + 1) := ⟨_, rfl⟩
    rw [← hy] at HNX HBN HOKN
    have HY := Aside0.mk hy
    clear hD hy
    have HGL := Aside0.mk (blk_lt HDR.out.x6)
    by_cases hlt : k < m
    · have HIN := Aside0.mk ((HINS.out D HBT.out HOK.out HDD.out).trans HNX.out.symm)
      go_upto_region 6 with (first
        | (go_at_call 14; (refine (HV14.out wr).mono ?_; rintro e w1 ⟨a1, rfl, ht, hb⟩; have HT1 := Aside0.mk ht; have HB1 := Aside0.mk hb; clear ht hb; unfold tmV))
        | (go_at_call 14; (refine (HV14.out w1).mono ?_; rintro e w2 ⟨a2, rfl, ht, hb⟩; have HT2 := Aside0.mk ht; have HB2 := Aside0.mk (below_then HB1.out HB1.out.size hb); clear ht hb; unfold tmV))
        | (obtain ⟨W3, hW3⟩ : ∃ W3, W3 = w2.alloc (tmO a2 v0) := ⟨_, rfl⟩; have hrow := Aside0.mk (show W3.heap[w2.heap.size]? = some (tmO a2 v0) by rw [hW3]; exact blk_new _ _); have HB3 := Aside0.mk (show Below wr.heap.size wr W3 by rw [hW3]; exact HB2.out.alloc HB2.out.size _); unfold tmO at hW3; rw [← hW3]; clear hW3; go_at_call 16; go_must (refine (Apps_calls 0 v0 a1 (some ⟨w2.heap.size, 0, none⟩) 1 1 _ [v0] W3 (Nat.zero_le _) rfl (by decide) (HANY.out HT1.out) (one_row0 hrow.out (HANY.out HT2.out))).mono ?_; rw [HAPP.out]; rintro e w4 ⟨q4, rfl, ht, hb⟩; have HT4 := Aside0.mk ht; have HB4 := Aside0.mk (below_then HB3.out HB3.out.size hb); clear ht hb; unfold tmV)))
      obtain ⟨W5, hW5⟩ : ∃ W5, W5 = w4.alloc (tmO q4 d) := ⟨_, rfl⟩
      have hb5 : Below w4.heap.size w4 W5 := by rw [hW5]; exact below_alloc (Below.refl _ _) _
      have HX7 := Aside0.mk (show W5.heap[w4.heap.size]? = some (tmO q4 d) by rw [hW5]; exact blk_new _ _)
      have HB5 := Aside0.mk (below_then HB4.out HB4.out.size hb5)
      have HD5 := Aside0.mk (HDR.out.later HB5.out)
      have HX55 := Aside0.mk HD5.out.x5
      have HT5 := Aside0.mk (show TmS W5 (fun k => (k ≠ g5 ∧ k ≠ g5 + 1) ∧ k < W5.heap.size) q4 d from (TmS.later HT4.out hb5).mono fun j hj hz => ⟨by have := HB3.out.size; have := HGL.out; rcases hj with hj | hj <;> omega, hz⟩)
      have HI5 := Aside0.mk (HD5.out.i5.mono fun j hj hz => (⟨hj, hz⟩ : (j ≠ g5 ∧ j ≠ g5 + 1) ∧ j < W5.heap.size))
      unfold tmO at hW5
      rw [← hW5]
      clear hW5 hb5 HT4 HB1 HB2 HB3 HB4 hrow HDR HT1 HT2
      go_upto_region 7 with (first
        | (refine wpList_load_row rfl 28 _ rfl (w4.heap.size) rfl 28 _ (0, 0) _ HX7.out Try.underlying28 rfl (by kernel_rfl) ?_)
        | (refine wpList_load_row rfl 28 _ rfl (g5) rfl 28 _ (0, 0) _ HX55.out Try.underlying28 rfl (by kernel_rfl) ?_)
        | (go_at_call 17; go_must (refine (InstS_calls (fun k => (k ≠ g5 ∧ k ≠ g5 + 1) ∧ k < W5.heap.size) W5.heap.size (fun _ h => h.2) d D q4 p5 W5 (Nat.le_refl _) HT5.out HI5.out).mono ?_; rw [HIN.out]; rintro e w6 ⟨q6, rfl, ht, hb⟩; have HT6 := Aside0.mk ht; have HD6 := Aside0.mk (HD5.out.later hb); have HB6 := Aside0.mk (below_then HB5.out HB5.out.size hb); have HZ6 := Aside0.mk hb.size; clear ht hb; obtain ⟨r0, r1, r2, r3, r4, r5, r6, r7, f0, f1, f2, f3, f4, f5, f6, f7⟩ := row8c HD6.out.x5; unfold tmV)))
      clear HT5 HI5 HX55 HX7
      have hch := chg_set8 w6 g5 (.int .i64 y.kind) (.int .i64 y.num) (.string y.name) (.int .i64 y.lv.kind) (.int .i64 y.lv.num) (.slice q6.A y.lv.kids.length q6.c) (.slice q6.B y.ls.length q6.d) (.slice q6.K y.kids.length q6.e)
      have hx5 := set8 (a0 := .int .i64 y.kind) (a1 := .int .i64 y.num) (a2 := .string y.name) (a3 := .int .i64 y.lv.kind) (a4 := .int .i64 y.lv.num) (a5 := .slice q6.A y.lv.kids.length q6.c) (a6 := .slice q6.B y.ls.length q6.d) (a7 := .slice q6.K y.kids.length q6.e) HD6.out.x5
      obtain ⟨W7, hW7⟩ : ∃ W7, W7 = ((((((((w6.setCell ⟨g5, 0, none⟩ (.int .i64 y.kind)).setCell ⟨g5, 1, none⟩ (.int .i64 y.num)).setCell ⟨g5, 2, none⟩ (.string y.name)).setCell ⟨g5, 3, none⟩ (.int .i64 y.lv.kind)).setCell ⟨g5, 4, none⟩ (.int .i64 y.lv.num)).setCell ⟨g5, 5, none⟩ (.slice q6.A y.lv.kids.length q6.c)).setCell ⟨g5, 6, none⟩ (.slice q6.B y.ls.length q6.d)).setCell ⟨g5, 7, none⟩ (.slice q6.K y.kids.length q6.e)) := ⟨_, rfl⟩
      rw [← hW7] at hch hx5 ⊢
      clear hW7
      have hg5 := HG5.out
      have hgl := HGL.out
      have HD7 := Aside0.mk (show DbS W7 g5 q6 p6 y D from ⟨hx5, (hch.block _ (blk_lt HD6.out.x6) (by omega)).trans HD6.out.x6, (HT6.out.same fun j hj hz => hch.block j hz (by have := HB5.out.size; rcases hj with hj | hj <;> omega)).mono fun j hj _ => (by have := HB5.out.size; rcases hj with hj | hj; exact hj.1; omega), HD6.out.i6.same fun j hj hz => hch.block j hz hj.1⟩)
      have HB7 := Aside0.mk (Chg.trans_below (HBR.out.trans (HB6.out.mono HBR.out.size)) hch (fun _ e => by omega) (Nat.le_trans HBR.out.size HB6.out.size))
      have HZ7 := Aside0.mk (show g5 + 1 < W7.heap.size from blk_lt HD7.out.x6)
      clear r0 r1 r2 r3 r4 r5 r6 r7 f0 f1 f2 f3 f4 f5 f6 f7 HT6 HD6 HD5 HB6 HB5 HZ6 hch hx5
      refine td7_region W7 (g5 + 1) (fun k => (k ≠ g5 ∧ k ≠ g5 + 1) ∧ k < W7.heap.size) p6 D HD7.out.x6 (fun j hj => ⟨hj.2, hj.1.2⟩) (HD7.out.i6.mono fun j hj hz => ⟨hj, hz⟩) HBT.out HOK.out HDD.out ?_
      intro w8 u24 u25 u26 u28 O0 O1 O2 v5 O5 hch _ _ _ _ _ _ ⟨pp, hpe, q8, hq1, _, hq3⟩ hO5
      obtain rfl : pp = g5 + 1 := by injection hpe with hpe; injection hpe with hpe; injection hpe with hpe; exact hpe.symm
      rw [← HNX.out] at hq1 hq3
      have HD8 := Aside0.mk (show DbS w8 g5 q6 q8 y y from ⟨(hch.block _ (blk_lt HD7.out.x5) (fun e => e.elim (fun e => by have e : g5 = g5 + 1 := e; omega) id)).trans HD7.out.x5, hq1, HD7.out.i5.same fun j hj hz => hch.block j hz (fun e => e.elim (fun e => hj.2 e) id), hq3.mono fun j hj hz => by
        rcases hj with hj | hj
        · exact hj.elim
        · have hz7 := HZ7.out
          rcases Nat.lt_or_ge j W7.heap.size with h | h
          · exact absurd (est2_fix h (fun e => hj.2 e) (fun e => e.elim)) (hO5 j hj.1).2
          · omega⟩)
      have HB8 := Aside0.mk (Chg.trans_below HB7.out hch (fun j e => by rcases e with e | e; (have e : j = g5 + 1 := e; omega); exact e.elim) HB7.out.size)
      have HSY := Aside0.mk (show (measP y).1 = (sizeT y : Int) by rw [meas_yes HOKN.out])
      clear hch hpe hq1 hq3 hO5 HD7 HB7 HZ7
      go_upto_region 8 with (fail)
      refine td8_region w8 w8.heap.size g5 q6 y (g5 + 1) q8 y (sizeT y) (Nat.le_refl _) HD8.out.x5 (TmS.all HD8.out.i5) HD8.out.x6 (TmS.all HD8.out.i6) HSY.out HSY.out (cmp_self HBN.out.bv) (alike_self HBN.out.bv) ?_
      intro w9 hch
      have hb9 := hch.below (fun _ h => h.elim False.elim False.elim) (Nat.le_refl w8.heap.size)
      have HD9 := Aside0.mk (HD8.out.later hb9)
      have HB9 := Aside0.mk (HB8.out.trans (hb9.mono HB8.out.size))
      clear hch hb9 HD8 HB8
      rw [HY.out] at HD9
      go_wp2
      go_roundw
      case rel => exact ⟨k + 1, q6, q8, by go_num, by omega, HD9, HB9⟩
      case measure => (simp [intOf]; try omega)
    · obtain rfl : k = m := by omega
      have hlt' : decide ((k : Int) < k) = false := by simp
      have HAL := Aside0.mk (show alikeT (LiftT D 0 by_) (LiftT D 0 by_) = true by rw [lift_bt HBT.out HOK.out]; exact alike_self (HBT.out.lifted _))
      have HCO := Aside0.mk (show CmpOk (LiftT D 0 by_) (LiftT D 0 by_) by rw [lift_bt HBT.out HOK.out]; exact cmp_self (HBT.out.lifted _))
      go_upto_region 11 with (fail)
      refine td11_region wr wr.heap.size g5 p5 D (g5 + 1) p6 D by_ (Nat.le_refl _) HDR.out.x5 (TmS.all HDR.out.i5) HDR.out.x6 (TmS.all HDR.out.i6) HBT.out HOK.out HCO.out HAL.out ?_
      intro w9 u43 u46 O2 O5 hch _ _ _ _
      have hb9 := hch.below (fun _ h => h.elim False.elim False.elim) (Nat.le_refl wr.heap.size)
      have HB9 := Aside0.mk (HBR.out.trans (hb9.mono HBR.out.size))
      clear hch hb9
      go_wp2
      go_ret
      exact ⟨rfl, HB9.out⟩
end Go.Proofs.Ytdboloabpjmgaaa
