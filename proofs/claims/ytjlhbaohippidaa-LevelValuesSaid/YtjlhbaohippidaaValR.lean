/-
  The walks of the reference's value and Value.
-/
import Derived.Test.YtjlhbaohippidaaVlR
namespace Go.Proofs.Ytjlhbaohippidaa
open Go.RowKit Go.IntWalk Go.Proofs.YtjlhbaohippidaaW.PrintWords Go.RegionInvYtjlhbaohippidaa Go.RegionEYtjlhbaohippidaa

theorem valR_in (vs : List Int) : ∀ {l : Lv}, Good l → 0 ≤ valR vs l ∧ valR vs l ≤ 1099511627776 := by
  intro l h
  induction h with
  | @mk k n ks h hk ih =>
    rcases good_cases (.mk h hk) with ⟨rfl, rfl, h0, h1⟩ | ⟨rfl, rfl, h0, h1⟩ | ⟨rfl, x, rfl, h0, h1, hx⟩ | ⟨rfl, x, y, rfl, -, -⟩
    · rw [valR_num]; omega
    · rw [valR_var]; exact vAt_in _ _
    · rw [valR_succ]; have := ih x (by simp); omega
    · rw [valR_max]; have := ih x (by simp); have := ih y (by simp); omega
theorem ReadsInt.still {w w' : World} {k : IntKind} {A : Option Addr} {n : Nat} {ks : List Int} (h : ReadsInt w k A n ks) (hs : ∀ b, b < w.heap.size → w'.heap[b]? = w.heap[b]?) : ReadsInt w' k A n ks := by
  refine ⟨h.1, h.2.1, fun hn => ?_⟩
  obtain ⟨ad, e, hc⟩ := h.2.2 hn
  refine ⟨ad, e, fun j hj => ?_⟩
  have hx := hc j hj
  exact (cell_same (w := w) (w' := w') (hs _ (World.block_lt_of_cell? w _ hx))).trans hx
abbrev vbW (w : World) (A : Option Addr) (m c : Nat) (k n : Int) : World := w.alloc (.cells #[.int .i64 k, .int .i64 n, .slice A m c] 24 (0, 0))
set_option maxHeartbeats 8000000 in
theorem ref_value (Av : Option Addr) (nv cv : Nat) (vs : List Int) (N : Nat) : ∀ (l : Lv), SizeOf.sizeOf l < N → Good l → ∀ (A : Option Addr) (c : Nat) (w : World), LvIn w w.heap.size A c l → ReadsInt w .i64 Av nv vs →
    Calls Try.prog 35 #[lvV A c l, .slice Av nv cv] w fun e w' => e = .returned (.int .i64 (valR vs l)) ∧ Below w.heap.size w w' := by
  induction N with
  | zero => intro l h; omega
  | succ N ih =>
    rintro ⟨lk, ln, ks⟩ hN hgood A c w hin hv
    have IH := Aside0.mk ih
    have HIN := Aside0.mk hin
    have HGOOD := Aside0.mk hgood
    have HV := Aside0.mk hv
    have HVL := Aside0.mk hv.1
    have hnv := hv.2.1
    clear ih hin hgood hv
    unfold lvV
    simp only [Lv.kind, Lv.num, Lv.kids]
    have HB1 := Aside0.mk (show Below w.heap.size w (vbW w A ks.length c lk ln) from below_alloc (Below.refl _ _) _)
    have HX2 := Aside0.mk (show (vbW w A ks.length c lk ln).heap[w.heap.size]? = some (.cells #[.int .i64 lk, .int .i64 ln, .slice A ks.length c] 24 (0, 0)) from blk_new w _)
    have HZ1 := Aside0.mk (show (vbW w A ks.length c lk ln).heap.size = w.heap.size + 1 by simp [vbW])
    rcases good_cases HGOOD.out with ⟨rfl, rfl, h0, h1⟩ | ⟨rfl, rfl, h0, h1⟩ | ⟨rfl, x, rfl, h0, h1, hx⟩ | ⟨rfl, x, y, rfl, hx, hy⟩
    · rw [valR_num]
      clear HGOOD
      go_enter Try.func35, Try.ntmps35
      go_wp2
      go_ret
      exact ⟨rfl, HB1.out⟩
    · rw [valR_var]
      obtain ⟨i, rfl⟩ := Int.eq_ofNat_of_zero_le h0
      rw [Int.toNat_natCast]
      clear HGOOD
      by_cases hi : i < nv
      · obtain ⟨ad, rfl, hc⟩ := (HV.out.below HB1.out).at_ i (by omega) (by omega)
        rw [Int.toNat_natCast] at hc
        have HE := Aside0.mk (vAt_lt (vs := vs) (i := i) (by rw [HVL.out]; exact hi))
        obtain ⟨z, hz⟩ : ∃ z, z = rd vs i := ⟨_, rfl⟩
        rw [← hz] at hc HE
        clear hz
        have hc' : (w.alloc (.cells #[.int .i64 2, .int .i64 i, .slice A 0 c] 24 (0, 0))).cell? (ad.add i) = some (.int .i64 z) := hc
        go_enter Try.func35, Try.ntmps35
        go_wp2
        all_goals go_ret
        all_goals exact ⟨congrArg (fun n => Ending.returned (.int .i64 n)) (by rw [HE.out]; omega), HB1.out⟩
      · have HE := Aside0.mk (vAt_ge (vs := vs) (i := i) (by rw [HVL.out]; exact hi))
        go_enter Try.func35, Try.ntmps35
        go_wp2
        go_ret
        exact ⟨by rw [HE.out]; rfl, HB1.out⟩
    · rw [valR_succ]
      obtain ⟨A', c', hcs, hxin⟩ := HIN.out.kid 0 x rfl
      obtain ⟨gb, off, rfl, hgb⟩ := kid_ptr hcs
      have HC := Aside0.mk (lit_kid (hcs.same (w' := vbW w (some ⟨gb, off, none⟩) [x].length c 3 ln) fun k hk _ => HB1.out.block k hk))
      have HRG := Aside0.mk (valR_in vs hx)
      have HXIN := Aside0.mk hxin
      have HX := Aside0.mk hx
      clear hcs hx hxin HGOOD
      go_enter Try.func35, Try.ntmps35
      go_upto_region 9 with (fail)
      refine vl9_region (vbW w (some ⟨gb, off, none⟩) [x].length c 3 ln) w.heap.size 3 ln gb off c Av nv cv x.kind x.num A' x.kids.length c' (valR vs x) HX2.out hgb HC.out.1 HC.out.2.1 HC.out.2.2 (fun w5 hw5 hz5 => ?_) (by have := HRG.out; rw [i64_left, wrap64_in _ (by omega)]) ?_
      · have hkid := kid_small (k := 3) (n := ln) (ks := [x]) (i := 0) (x := x) rfl
        exact IH.out x (by omega) HX.out A' c' w5 (LvS.all (HXIN.out.same fun k hk _ => (hw5 k hk).trans (HB1.out.block k hk))) (ReadsInt.still HV.out fun k hk => (hw5 k hk).trans (HB1.out.block k hk))
      · intro w9 hch
        have HBN := Aside0.mk (below_then HB1.out HB1.out.size (hch.below (fun _ h => h.elim False.elim False.elim) (Nat.le_refl _)))
        clear hch
        go_wp2
        all_goals go_ret
        all_goals exact ⟨congrArg (fun n => Ending.returned (.int .i64 n)) (by omega), HBN.out⟩
    · rw [valR_max]
      obtain ⟨A', c', hcs, hxin⟩ := HIN.out.kid 0 x rfl
      obtain ⟨A'', c'', hcs', hyin⟩ := HIN.out.kid 1 y rfl
      obtain ⟨gb, off, rfl, hgb⟩ := kid_ptr hcs
      have HC := Aside0.mk (lit_kid (hcs.same (w' := vbW w (some ⟨gb, off, none⟩) [x, y].length c 4 ln) fun k hk _ => HB1.out.block k hk))
      have HC' := Aside0.mk (lit_kid (hcs'.same (w' := vbW w (some ⟨gb, off, none⟩) [x, y].length c 4 ln) fun k hk _ => HB1.out.block k hk))
      have HXIN := Aside0.mk hxin
      have HYIN := Aside0.mk hyin
      have HX := Aside0.mk hx
      have HY := Aside0.mk hy
      clear hcs hx hxin hcs' hy hyin HGOOD
      go_enter Try.func35, Try.ntmps35
      go_upto_region 10 with (fail)
      refine vl10_region (vbW w (some ⟨gb, off, none⟩) [x, y].length c 4 ln) w.heap.size 4 ln gb off c Av nv cv x.kind x.num A' x.kids.length c' (valR vs x) y.kind y.num A'' y.kids.length c'' (valR vs y) HX2.out hgb HC.out.1 HC.out.2.1 HC.out.2.2 HC'.out.1 HC'.out.2.1 HC'.out.2.2 (fun w5 hw5 hz5 => ?_) (fun w5 hw5 hz5 => ?_) ?_
      · have hkid := kid_small (k := 4) (n := ln) (ks := [x, y]) (i := 0) (x := x) rfl
        exact IH.out x (by omega) HX.out A' c' w5 (LvS.all (HXIN.out.same fun k hk _ => (hw5 k hk).trans (HB1.out.block k hk))) (ReadsInt.still HV.out fun k hk => (hw5 k hk).trans (HB1.out.block k hk))
      · have hkid := kid_small (k := 4) (n := ln) (ks := [x, y]) (i := 1) (x := y) rfl
        exact IH.out y (by omega) HY.out A'' c'' w5 (LvS.all (HYIN.out.same fun k hk _ => (hw5 k hk).trans (HB1.out.block k hk))) (ReadsInt.still HV.out fun k hk => (hw5 k hk).trans (HB1.out.block k hk))
      · intro w9 hch
        have HBN := Aside0.mk (below_then HB1.out HB1.out.size (hch.below (fun _ h => h.elim False.elim False.elim) (Nat.le_refl _)))
        clear hch
        go_wp2
        go_ret
        exact ⟨rfl, HBN.out⟩
set_option maxHeartbeats 4000000 in
theorem refValue_calls (A Av : Option Addr) (c nv cv : Nat) (l : Lv) (vs : List Int) (w : World) (hin : LvIn w w.heap.size A c l) (hv : ReadsInt w .i64 Av nv vs) :
    Calls Try.prog 15 #[lvV A c l, .slice Av nv cv] w fun e w' => e = .returned (.int .i64 (valB vs l)) ∧ Below w.heap.size w w' := by
  have HIN := Aside0.mk hin
  have HV := Aside0.mk hv
  clear hin hv
  unfold lvV
  have HB0 := Aside0.mk (show Below w.heap.size w (w.alloc (.cells #[.int .i64 l.kind, .int .i64 l.num, .slice A l.kids.length c] 24 (0, 0))) from below_alloc (Below.refl _ _) _)
  have HX0 := Aside0.mk (blk_new w (.cells #[.int .i64 l.kind, .int .i64 l.num, .slice A l.kids.length c] 24 (0, 0)))
  go_enter Try.func15, Try.ntmps15
  cases hs : soundB l with
  | false =>
    have HE := Aside0.mk (valB_no (vs := vs) hs)
    have HS := Aside0.mk hs
    clear hs
    go_wp2_with (first
      | (go_at_call 16; go_must (refine (refSound_calls A c l _ (LvS.all (HIN.out.stay HB0.out))).mono ?_; rintro e w1 ⟨rfl, hb⟩; rw [HS.out]; have HB1 := Aside0.mk (below_then HB0.out HB0.out.size hb); clear hb)))
    go_ret
    exact ⟨by rw [HE.out]; rfl, HB1.out⟩
  | true =>
    have HE := Aside0.mk (show valR vs l = valB vs l by rw [valB_yes hs, ← valN_sum vs (good_of_sound hs)])
    have HG := Aside0.mk (good_of_sound hs)
    have HS := Aside0.mk hs
    clear hs
    go_wp2_with (first
      | (go_at_call 16; go_must (refine (refSound_calls A c l _ (LvS.all (HIN.out.stay HB0.out))).mono ?_; rintro e w1 ⟨rfl, hb⟩; rw [HS.out]; have HB1 := Aside0.mk (below_then HB0.out HB0.out.size hb); obtain ⟨p0, p1, p2, -, -, -⟩ := row3 (blk_below HX0.out hb); clear hb))
      | (go_at_call 35; go_must (refine (ref_value Av nv cv vs _ l (Nat.lt_succ_self _) HG.out A c _ (LvS.all (HIN.out.stay HB1.out)) (HV.out.below HB1.out)).mono ?_; rintro e w2 ⟨rfl, hb⟩; rw [HE.out]; have HB2 := Aside0.mk (below_then HB1.out HB1.out.size hb); clear hb)))
    go_ret
    exact ⟨rfl, HB2.out⟩
end Go.Proofs.Ytjlhbaohippidaa
