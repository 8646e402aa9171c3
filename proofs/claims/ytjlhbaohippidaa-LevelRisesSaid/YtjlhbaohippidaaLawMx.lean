/-
  The walk of the law LevelMaxes.
-/
import Derived.Test.YtjlhbaohippidaaMxR
namespace Go.Proofs.Ytjlhbaohippidaa
open Go.RowKit Go.Proofs.YtjlhbaohippidaaW.PrintWords Go.RegionInvYtjlhbaohippidaa Go.RegionEYtjlhbaohippidaa

/-! ### plainly -/
theorem maxes_1 {a b : Lv} (ha : soundB a = true) (hb : soundB b = true) (h : sz a + sz b + 1 ≤ 1000 ∧ max (dp a) (dp b) + 1 ≤ 256) : eqP (mxP a b) (mxP b a) = true := by
  rw [eqP_3 ((mx_sound ha hb).2 h) ((mx_sound hb ha).2 (by omega)), mx_sum ha hb, mx_sum hb ha, or_comm]
  exact decide_eq_true rfl
theorem maxes_2 {a : Lv} (ha : soundB a = true) (h : soundB (mxP a a) = true) : eqP (mxP a a) a = true := by
  rw [eqP_3 h ha, mx_sum ha ha, or_self]
  exact decide_eq_true rfl
theorem maxes_in {a b c : Lv} (ha : soundB a = true) (hb : soundB b = true) (hc : soundB c = true) (h : soundB (mxP a (mxP b c)) = true) :
    (sz a + sz b + 1 ≤ 1000 ∧ max (dp a) (dp b) + 1 ≤ 256) ∧ soundB (mxP b c) = true ∧ (sz c + sz a + 1 ≤ 1000 ∧ max (dp c) (dp a) + 1 ≤ 256) := by
  by_cases hbc : soundB (mxP b c) = true
  · have := (mx_sound ha hbc).1 h
    rw [mx_sz hb hc, mx_dp hb hc] at this
    exact ⟨by omega, hbc, by omega⟩
  · exfalso
    have hg := ((sound_iff _).1 h)
    unfold mxP at hg
    rw [sz_mk, dp_mk, szs_cons, szs_cons, szs_nil, dps_cons, dps_cons, dps_nil] at hg
    have hown : owP (.mk 4 0 [owP b, owP c]) = .mk 4 0 [owP b, owP c] := owP_not (by simpa [mxP] using hbc)
    rw [hown] at hg
    apply hbc
    rw [sound_iff]
    unfold mxP
    refine ⟨good_max (own_good hb) (own_good hc), by omega, by omega⟩
theorem maxes_3 {a b c : Lv} (ha : soundB a = true) (hb : soundB b = true) (hc : soundB c = true) (hx : soundB (mxP a (mxP b c)) = true) (hy : soundB (mxP (mxP c a) b) = true) : eqP (mxP a (mxP b c)) (mxP (mxP c a) b) = true := by
  have h := maxes_in ha hb hc hx
  have hca := (mx_sound hc ha).2 h.2.2
  rw [eqP_3 hx hy, mx_sum ha h.2.1, mx_sum hb hc, mx_sum hca hb, mx_sum hc ha]
  refine decide_eq_true (congrArg shortN ?_)
  rw [or_comm (orN (sumP c) (sumP a)), ← or_assoc, or_comm (orN (sumP a) (sumP b)), or_comm (sumP c), or_comm (sumP b), or_assoc, or_assoc, or_comm (sumP c), or_assoc]
abbrev bx3 (w : World) (A B C : Option Addr) (c c' c'' : Nat) (a b d : Lv) : World := (bx2 w A B c c' a b).alloc (.cells #[.int .i64 d.kind, .int .i64 d.num, .slice C d.kids.length c''] 24 (0, 0))
theorem box2_3 (w : World) (A B C : Option Addr) (c c' c'' : Nat) (a b d : Lv) : (bx3 w A B C c c' c'' a b d).heap[w.heap.size + 1 + 1]? = some (.cells #[.int .i64 d.kind, .int .i64 d.num, .slice C d.kids.length c''] 24 (0, 0)) := by
  have := blk_new (bx2 w A B c c' a b) (.cells #[.int .i64 d.kind, .int .i64 d.num, .slice C d.kids.length c''] 24 (0, 0))
  simpa [bx2] using this
theorem lv_old {w w1 : World} {A : Option Addr} {c : Nat} {l : Lv} (h : LvIn w w.heap.size A c l) (hb : Below w.heap.size w w1) : LvS w1 (fun k => k < w1.heap.size) A c l := (h.stay hb).mono hb.size
set_option maxHeartbeats 8000000 in
theorem maxes_calls (A B C : Option Addr) (c c' c'' : Nat) (a b d : Lv) (w : World) (ha : LvIn w w.heap.size A c a) (hb : LvIn w w.heap.size B c' b) (hd : LvIn w w.heap.size C c'' d) :
    Calls Try.prog 5 #[lvV A c a, lvV B c' b, lvV C c'' d] w fun e w' => e = .returned (.bool true) ∧ Below w.heap.size w w' := by
  have HA := Aside0.mk ha
  have HB := Aside0.mk hb
  have HC := Aside0.mk hd
  have HW := Aside0.mk (show Below w.heap.size w (bx3 w A B C c c' c'' a b d) from below_alloc (below_alloc (below_alloc (Below.refl _ _) _) _) _)
  have HX := Aside0.mk (show (bx3 w A B C c c' c'' a b d).heap[w.heap.size]? = some (.cells #[.int .i64 a.kind, .int .i64 a.num, .slice A a.kids.length c] 24 (0, 0)) from blk_alloc (box0 w _ _) _)
  have HY := Aside0.mk (show (bx3 w A B C c c' c'' a b d).heap[w.heap.size + 1]? = some (.cells #[.int .i64 b.kind, .int .i64 b.num, .slice B b.kids.length c'] 24 (0, 0)) from blk_alloc (box1 w _ _) _)
  have HZ := Aside0.mk (box2_3 w A B C c c' c'' a b d)
  clear ha hb hd
  have gi : ∀ l : Lv, soundB l = true ∨ soundB l = false := fun l => by cases soundB l <;> simp
  unfold lvV
  go_enter Try.func5, Try.ntmps5
  have HBL := HW
  rcases gi a with sa | sa
  · have SA := Aside0.mk sa
    clear sa
    rcases gi b with sb | sb
    · have SB := Aside0.mk sb
      clear sb
      rcases gi d with sd | sd
      · have SC := Aside0.mk sd
        clear sd
        go_upto_region 3 with (first
          | (have hg := HZ2; clear hg; go_at_call 16; go_must (refine (refSound_calls C c'' d _ (LvS.all (HC.out.stay HBL.out))).mono ?_; rintro e w3 ⟨rfl, hb⟩; rw [SC.out]; have HBN := Aside0.mk (below_then HBL.out HBL.out.size hb); have HX3 := Aside0.mk (blk_below HX2.out hb); have HY3 := Aside0.mk (blk_below HY2.out hb); have HZ3 := Aside0.mk (blk_below HZ2.out hb); clear hb HBL; have HBL := HBN; clear HBN))
          | (have hg := HZ1; clear hg; go_at_call 16; go_must (refine (refSound_calls B c' b _ (LvS.all (HB.out.stay HBL.out))).mono ?_; rintro e w2 ⟨rfl, hb⟩; rw [SB.out]; have HBN := Aside0.mk (below_then HBL.out HBL.out.size hb); have HX2 := Aside0.mk (blk_below HX1.out hb); have HY2 := Aside0.mk (blk_below HY1.out hb); have HZ2 := Aside0.mk (blk_below HZ1.out hb); obtain ⟨q0, q1, q2, -, -, -⟩ := row3 HZ2.out; clear hb HBL; have HBL := HBN; clear HBN))
          | (go_at_call 16; go_must (refine (refSound_calls A c a _ (LvS.all (HA.out.stay HBL.out))).mono ?_; rintro e w1 ⟨rfl, hb⟩; rw [SA.out]; have HBN := Aside0.mk (below_then HBL.out HBL.out.size hb); have HX1 := Aside0.mk (blk_below HX.out hb); have HY1 := Aside0.mk (blk_below HY.out hb); have HZ1 := Aside0.mk (blk_below HZ.out hb); obtain ⟨p0, p1, p2, -, -, -⟩ := row3 HY1.out; clear hb HBL; have HBL := HBN; clear HBN)))
        refine mxa_region w3 w.heap.size A B C c c' c'' a b d HX3.out HY3.out HZ3.out (lv_old HA.out HBL.out) (lv_old HB.out HBL.out) (lv_old HC.out HBL.out) ?_
        rintro w4 u7 u8 u26 u27 u30 u32 v12 O12 v13 O13 hch ⟨p, rfl, hfx⟩ - ⟨q, rfl, hfy⟩ -
        have hb' : Below w3.heap.size w3 w4 := hch.below (fun _ h => h.elim False.elim False.elim) (Nat.le_refl _)
        have HX4 := Aside0.mk (blk_below HX3.out hb')
        have HY4 := Aside0.mk (blk_below HY3.out hb')
        have HZ4 := Aside0.mk (blk_below HZ3.out hb')
        have HBN := Aside0.mk (below_then HBL.out HBL.out.size hb')
        clear hch hb' HBL
        have HBL := HBN
        clear HBN
        obtain ⟨Ax, cx, hpx, -, hlx⟩ := hfx
        obtain ⟨Ay, cy, hpy, -, hly⟩ := hfy
        have HLX := Aside0.mk hlx
        have HLY := Aside0.mk hly
        have HP4 := Aside0.mk hpx
        have HQ4 := Aside0.mk hpy
        obtain ⟨x, hx⟩ : ∃ x, x = mxP a (mxP b d) := ⟨_, rfl⟩
        obtain ⟨y, hy⟩ : ∃ y, y = mxP (mxP d a) b := ⟨_, rfl⟩
        rw [← hx] at HLX HP4
        rw [← hy] at HLY HQ4
        have HXE := Aside0.mk hx
        have HYE := Aside0.mk hy
        obtain ⟨i0, i1, i2, -, -, -⟩ := row3 HP4.out
        clear hlx hly hpx hpy hx hy
        rcases gi x with sx | sx
        · have SX := Aside0.mk sx
          clear sx
          rcases gi y with sy | sy
          · have SY := Aside0.mk sy
            clear sy
            rcases gi (mxP a a) with sm | sm
            · have SM := Aside0.mk sm
              clear sm
              go_upto_region 6 with (first
                | (have hg := HM7; clear hg; go_at_call 16; go_must (refine (refSound_calls A7 c7 (mxP a a) w7 HM7.out).mono ?_; rintro e w8 ⟨rfl, hb⟩; rw [SM.out]; have HBN := Aside0.mk (below_then HBL.out HBL.out.size hb); have HX8 := Aside0.mk (blk_below HX7.out hb); have HY8 := Aside0.mk (blk_below HY7.out hb); have HZ8 := Aside0.mk (blk_below HZ7.out hb); have HP8 := Aside0.mk (blk_below HP7.out hb); have HQ8 := Aside0.mk (blk_below HQ7.out hb); have HLX8 := Aside0.mk (HLX7.out.later hb); have HLY8 := Aside0.mk (HLY7.out.later hb); clear hb HBL; have HBL := HBN; clear HBN))
                | (go_at_call 17; go_must (refine (max_calls (fun _ => True) A A c c a a w6 (LvS.mono (HA.out.stay HBL.out) fun _ _ _ => trivial) (LvS.mono (HA.out.stay HBL.out) fun _ _ _ => trivial)).mono ?_; rintro e w7 ⟨A7, c7, rfl, hl7, hb⟩; have HM7 := Aside0.mk hl7.all; have HBN := Aside0.mk (below_then HBL.out HBL.out.size hb); have HX7 := Aside0.mk (blk_below HX6.out hb); have HY7 := Aside0.mk (blk_below HY6.out hb); have HZ7 := Aside0.mk (blk_below HZ6.out hb); have HP7 := Aside0.mk (blk_below HP6.out hb); have HQ7 := Aside0.mk (blk_below HQ6.out hb); have HLX7 := Aside0.mk (HLX6.out.later hb); have HLY7 := Aside0.mk (HLY6.out.later hb); clear hl7 hb HBL; have HBL := HBN; clear HBN))
                | (have hg := HX5; clear hg; go_at_call 16; go_must (refine (refSound_calls Ay cy y w5 HLY5.out.all).mono ?_; rintro e w6 ⟨rfl, hb⟩; rw [SY.out]; have HBN := Aside0.mk (below_then HBL.out HBL.out.size hb); have HX6 := Aside0.mk (blk_below HX5.out hb); have HY6 := Aside0.mk (blk_below HY5.out hb); have HZ6 := Aside0.mk (blk_below HZ5.out hb); have HP6 := Aside0.mk (blk_below HP5.out hb); have HQ6 := Aside0.mk (blk_below HQ5.out hb); have HLX6 := Aside0.mk (HLX5.out.later hb); have HLY6 := Aside0.mk (HLY5.out.later hb); obtain ⟨k0, k1, k2, -, -, -⟩ := row3 HX6.out; clear hb HBL; have HBL := HBN; clear HBN))
                | (go_at_call 16; go_must (refine (refSound_calls Ax cx x w4 HLX.out.all).mono ?_; rintro e w5 ⟨rfl, hb⟩; rw [SX.out]; have HBN := Aside0.mk (below_then HBL.out HBL.out.size hb); have HX5 := Aside0.mk (blk_below HX4.out hb); have HY5 := Aside0.mk (blk_below HY4.out hb); have HZ5 := Aside0.mk (blk_below HZ4.out hb); have HP5 := Aside0.mk (blk_below HP4.out hb); have HQ5 := Aside0.mk (blk_below HQ4.out hb); have HLX5 := Aside0.mk (HLX.out.later hb); have HLY5 := Aside0.mk (HLY.out.later hb); obtain ⟨j0, j1, j2, -, -, -⟩ := row3 HQ5.out; clear hb HBL; have HBL := HBN; clear HBN)))
              have hq := maxes_in SA.out SB.out SC.out (by rw [← HXE.out]; exact SX.out)
              refine mxb_region w8 w.heap.size A B C c c' c'' a b d p q Ax Ay cx cy x y HX8.out HY8.out HZ8.out (lv_old HA.out HBL.out) (lv_old HB.out HBL.out) (lv_old HC.out HBL.out) HP8.out (LvS.all HLX8.out) HQ8.out (LvS.all HLY8.out) (maxes_1 SA.out SB.out hq.1) (maxes_2 SA.out SM.out) (by have h1 := SX.out; have h2 := SY.out; rw [HXE.out] at h1 ⊢; rw [HYE.out] at h2 ⊢; exact maxes_3 SA.out SB.out SC.out h1 h2) ?_
              intro w9 u51 u54 u59 O2 O5 O10 hch _ _ _ _ _ _
              have HBN := Aside0.mk (below_then HBL.out HBL.out.size (hch.below (fun _ h => h.elim False.elim False.elim) (Nat.le_refl _)))
              clear hch hq
              go_wp2
              go_ret
              exact ⟨rfl, HBN.out⟩
            · have SM := Aside0.mk sm
              clear sm
              go_wp2_with (first
                | (go_at_call 13; go_must (refine (awake_calls _).mono ?_; rintro e w9 ⟨rfl, hb⟩; have HBN := Aside0.mk (below_then HBL.out HBL.out.size hb); clear hb HBL; have HBL := HBN; clear HBN))
                | (have hg := HM7; clear hg; go_at_call 16; go_must (refine (refSound_calls A7 c7 (mxP a a) w7 HM7.out).mono ?_; rintro e w8 ⟨rfl, hb⟩; rw [SM.out]; have HBN := Aside0.mk (below_then HBL.out HBL.out.size hb); have HX8 := Aside0.mk (blk_below HX7.out hb); have HY8 := Aside0.mk (blk_below HY7.out hb); have HZ8 := Aside0.mk (blk_below HZ7.out hb); have HP8 := Aside0.mk (blk_below HP7.out hb); have HQ8 := Aside0.mk (blk_below HQ7.out hb); have HLX8 := Aside0.mk (HLX7.out.later hb); have HLY8 := Aside0.mk (HLY7.out.later hb); clear hb HBL; have HBL := HBN; clear HBN))
                | (go_at_call 17; go_must (refine (max_calls (fun _ => True) A A c c a a w6 (LvS.mono (HA.out.stay HBL.out) fun _ _ _ => trivial) (LvS.mono (HA.out.stay HBL.out) fun _ _ _ => trivial)).mono ?_; rintro e w7 ⟨A7, c7, rfl, hl7, hb⟩; have HM7 := Aside0.mk hl7.all; have HBN := Aside0.mk (below_then HBL.out HBL.out.size hb); have HX7 := Aside0.mk (blk_below HX6.out hb); have HY7 := Aside0.mk (blk_below HY6.out hb); have HZ7 := Aside0.mk (blk_below HZ6.out hb); have HP7 := Aside0.mk (blk_below HP6.out hb); have HQ7 := Aside0.mk (blk_below HQ6.out hb); have HLX7 := Aside0.mk (HLX6.out.later hb); have HLY7 := Aside0.mk (HLY6.out.later hb); clear hl7 hb HBL; have HBL := HBN; clear HBN))
                | (have hg := HX5; clear hg; go_at_call 16; go_must (refine (refSound_calls Ay cy y w5 HLY5.out.all).mono ?_; rintro e w6 ⟨rfl, hb⟩; rw [SY.out]; have HBN := Aside0.mk (below_then HBL.out HBL.out.size hb); have HX6 := Aside0.mk (blk_below HX5.out hb); have HY6 := Aside0.mk (blk_below HY5.out hb); have HZ6 := Aside0.mk (blk_below HZ5.out hb); have HP6 := Aside0.mk (blk_below HP5.out hb); have HQ6 := Aside0.mk (blk_below HQ5.out hb); have HLX6 := Aside0.mk (HLX5.out.later hb); have HLY6 := Aside0.mk (HLY5.out.later hb); obtain ⟨k0, k1, k2, -, -, -⟩ := row3 HX6.out; clear hb HBL; have HBL := HBN; clear HBN))
                | (go_at_call 16; go_must (refine (refSound_calls Ax cx x w4 HLX.out.all).mono ?_; rintro e w5 ⟨rfl, hb⟩; rw [SX.out]; have HBN := Aside0.mk (below_then HBL.out HBL.out.size hb); have HX5 := Aside0.mk (blk_below HX4.out hb); have HY5 := Aside0.mk (blk_below HY4.out hb); have HZ5 := Aside0.mk (blk_below HZ4.out hb); have HP5 := Aside0.mk (blk_below HP4.out hb); have HQ5 := Aside0.mk (blk_below HQ4.out hb); have HLX5 := Aside0.mk (HLX.out.later hb); have HLY5 := Aside0.mk (HLY.out.later hb); obtain ⟨j0, j1, j2, -, -, -⟩ := row3 HQ5.out; clear hb HBL; have HBL := HBN; clear HBN)))
              go_ret
              exact ⟨rfl, HBL.out⟩
          · have SY := Aside0.mk sy
            clear sy
            go_wp2_with (first
              | (go_at_call 13; go_must (refine (awake_calls _).mono ?_; rintro e w9 ⟨rfl, hb⟩; have HBN := Aside0.mk (below_then HBL.out HBL.out.size hb); clear hb HBL; have HBL := HBN; clear HBN))
              | (have hg := HX5; clear hg; go_at_call 16; go_must (refine (refSound_calls Ay cy y w5 HLY5.out.all).mono ?_; rintro e w6 ⟨rfl, hb⟩; rw [SY.out]; have HBN := Aside0.mk (below_then HBL.out HBL.out.size hb); have HX6 := Aside0.mk (blk_below HX5.out hb); have HY6 := Aside0.mk (blk_below HY5.out hb); have HZ6 := Aside0.mk (blk_below HZ5.out hb); have HP6 := Aside0.mk (blk_below HP5.out hb); have HQ6 := Aside0.mk (blk_below HQ5.out hb); have HLX6 := Aside0.mk (HLX5.out.later hb); have HLY6 := Aside0.mk (HLY5.out.later hb); obtain ⟨k0, k1, k2, -, -, -⟩ := row3 HX6.out; clear hb HBL; have HBL := HBN; clear HBN))
              | (go_at_call 16; go_must (refine (refSound_calls Ax cx x w4 HLX.out.all).mono ?_; rintro e w5 ⟨rfl, hb⟩; rw [SX.out]; have HBN := Aside0.mk (below_then HBL.out HBL.out.size hb); have HX5 := Aside0.mk (blk_below HX4.out hb); have HY5 := Aside0.mk (blk_below HY4.out hb); have HZ5 := Aside0.mk (blk_below HZ4.out hb); have HP5 := Aside0.mk (blk_below HP4.out hb); have HQ5 := Aside0.mk (blk_below HQ4.out hb); have HLX5 := Aside0.mk (HLX.out.later hb); have HLY5 := Aside0.mk (HLY.out.later hb); obtain ⟨j0, j1, j2, -, -, -⟩ := row3 HQ5.out; clear hb HBL; have HBL := HBN; clear HBN)))
            go_ret
            exact ⟨rfl, HBL.out⟩
        · have SX := Aside0.mk sx
          clear sx
          go_wp2_with (first
            | (go_at_call 13; go_must (refine (awake_calls _).mono ?_; rintro e w9 ⟨rfl, hb⟩; have HBN := Aside0.mk (below_then HBL.out HBL.out.size hb); clear hb HBL; have HBL := HBN; clear HBN))
            | (go_at_call 16; go_must (refine (refSound_calls Ax cx x w4 HLX.out.all).mono ?_; rintro e w5 ⟨rfl, hb⟩; rw [SX.out]; have HBN := Aside0.mk (below_then HBL.out HBL.out.size hb); have HX5 := Aside0.mk (blk_below HX4.out hb); have HY5 := Aside0.mk (blk_below HY4.out hb); have HZ5 := Aside0.mk (blk_below HZ4.out hb); have HP5 := Aside0.mk (blk_below HP4.out hb); have HQ5 := Aside0.mk (blk_below HQ4.out hb); have HLX5 := Aside0.mk (HLX.out.later hb); have HLY5 := Aside0.mk (HLY.out.later hb); obtain ⟨j0, j1, j2, -, -, -⟩ := row3 HQ5.out; clear hb HBL; have HBL := HBN; clear HBN)))
          go_ret
          exact ⟨rfl, HBL.out⟩
      · have SC := Aside0.mk sd
        clear sd
        go_wp2_with (first
          | (go_at_call 13; go_must (refine (awake_calls _).mono ?_; rintro e w9 ⟨rfl, hb⟩; have HBN := Aside0.mk (below_then HBL.out HBL.out.size hb); clear hb HBL; have HBL := HBN; clear HBN))
          | (have hg := HZ2; clear hg; go_at_call 16; go_must (refine (refSound_calls C c'' d _ (LvS.all (HC.out.stay HBL.out))).mono ?_; rintro e w3 ⟨rfl, hb⟩; rw [SC.out]; have HBN := Aside0.mk (below_then HBL.out HBL.out.size hb); have HX3 := Aside0.mk (blk_below HX2.out hb); have HY3 := Aside0.mk (blk_below HY2.out hb); have HZ3 := Aside0.mk (blk_below HZ2.out hb); clear hb HBL; have HBL := HBN; clear HBN))
          | (have hg := HZ1; clear hg; go_at_call 16; go_must (refine (refSound_calls B c' b _ (LvS.all (HB.out.stay HBL.out))).mono ?_; rintro e w2 ⟨rfl, hb⟩; rw [SB.out]; have HBN := Aside0.mk (below_then HBL.out HBL.out.size hb); have HX2 := Aside0.mk (blk_below HX1.out hb); have HY2 := Aside0.mk (blk_below HY1.out hb); have HZ2 := Aside0.mk (blk_below HZ1.out hb); obtain ⟨q0, q1, q2, -, -, -⟩ := row3 HZ2.out; clear hb HBL; have HBL := HBN; clear HBN))
          | (go_at_call 16; go_must (refine (refSound_calls A c a _ (LvS.all (HA.out.stay HBL.out))).mono ?_; rintro e w1 ⟨rfl, hb⟩; rw [SA.out]; have HBN := Aside0.mk (below_then HBL.out HBL.out.size hb); have HX1 := Aside0.mk (blk_below HX.out hb); have HY1 := Aside0.mk (blk_below HY.out hb); have HZ1 := Aside0.mk (blk_below HZ.out hb); obtain ⟨p0, p1, p2, -, -, -⟩ := row3 HY1.out; clear hb HBL; have HBL := HBN; clear HBN)))
        go_ret
        exact ⟨rfl, HBL.out⟩
    · have SB := Aside0.mk sb
      clear sb
      go_wp2_with (first
        | (go_at_call 13; go_must (refine (awake_calls _).mono ?_; rintro e w9 ⟨rfl, hb⟩; have HBN := Aside0.mk (below_then HBL.out HBL.out.size hb); clear hb HBL; have HBL := HBN; clear HBN))
        | (have hg := HZ1; clear hg; go_at_call 16; go_must (refine (refSound_calls B c' b _ (LvS.all (HB.out.stay HBL.out))).mono ?_; rintro e w2 ⟨rfl, hb⟩; rw [SB.out]; have HBN := Aside0.mk (below_then HBL.out HBL.out.size hb); have HX2 := Aside0.mk (blk_below HX1.out hb); have HY2 := Aside0.mk (blk_below HY1.out hb); have HZ2 := Aside0.mk (blk_below HZ1.out hb); obtain ⟨q0, q1, q2, -, -, -⟩ := row3 HZ2.out; clear hb HBL; have HBL := HBN; clear HBN))
        | (go_at_call 16; go_must (refine (refSound_calls A c a _ (LvS.all (HA.out.stay HBL.out))).mono ?_; rintro e w1 ⟨rfl, hb⟩; rw [SA.out]; have HBN := Aside0.mk (below_then HBL.out HBL.out.size hb); have HX1 := Aside0.mk (blk_below HX.out hb); have HY1 := Aside0.mk (blk_below HY.out hb); have HZ1 := Aside0.mk (blk_below HZ.out hb); obtain ⟨p0, p1, p2, -, -, -⟩ := row3 HY1.out; clear hb HBL; have HBL := HBN; clear HBN)))
      go_ret
      exact ⟨rfl, HBL.out⟩
  · have SA := Aside0.mk sa
    clear sa
    go_wp2_with (first
      | (go_at_call 13; go_must (refine (awake_calls _).mono ?_; rintro e w9 ⟨rfl, hb⟩; have HBN := Aside0.mk (below_then HBL.out HBL.out.size hb); clear hb HBL; have HBL := HBN; clear HBN))
      | (go_at_call 16; go_must (refine (refSound_calls A c a _ (LvS.all (HA.out.stay HBL.out))).mono ?_; rintro e w1 ⟨rfl, hb⟩; rw [SA.out]; have HBN := Aside0.mk (below_then HBL.out HBL.out.size hb); have HX1 := Aside0.mk (blk_below HX.out hb); have HY1 := Aside0.mk (blk_below HY.out hb); have HZ1 := Aside0.mk (blk_below HZ.out hb); obtain ⟨p0, p1, p2, -, -, -⟩ := row3 HY1.out; clear hb HBL; have HBL := HBN; clear HBN)))
    go_ret
    exact ⟨rfl, HBL.out⟩
end Go.Proofs.Ytjlhbaohippidaa
