/-
  Merged: LawTP, LvIn, LvsIn, TmInT.
-/
import Derived.Deep.Slices
import Derived.ChangeArms
import Derived.Test.YtdboloabpjmgaaaMPuts4
/-! LawTP -/
namespace Go.Proofs.Ytdboloabpjmgaaa
open Go.RowKit Go.Proofs.YtdboloabpjmgaaaW.PrintWords Go.RegionInvYtdboloabpjmgaaa Go.RegionEYtdboloabpjmgaaa

structure ThreeB (w W : World) (pt pu pv : Pl) (t u v : Tm) : Prop where
  b0 : W.heap[w.heap.size]? = some (tmO pt t)
  b1 : W.heap[w.heap.size + 1]? = some (tmO pu u)
  b2 : W.heap[w.heap.size + 1 + 1]? = some (tmO pv v)
  bel : Below w.heap.size w W
  i0 : TmIn W w.heap.size pt t
  i1 : TmIn W w.heap.size pu u
  i2 : TmIn W w.heap.size pv v
theorem ThreeB.later {w W W' : World} {pt pu pv : Pl} {t u v : Tm} (h : ThreeB w W pt pu pv t u v) (hb : Below W.heap.size W W') : ThreeB w W' pt pu pv t u v :=
  ⟨(hb.block _ (blk_lt h.b0)).trans h.b0, (hb.block _ (blk_lt h.b1)).trans h.b1, (hb.block _ (blk_lt h.b2)).trans h.b2, below_then h.bel h.bel.size hb, h.i0.stay (hb.mono h.bel.size), h.i1.stay (hb.mono h.bel.size), h.i2.stay (hb.mono h.bel.size)⟩
theorem TmBox.box {w : World} {p : Nat} {T : Nat → Prop} {t : Tm} {O : Nat → Prop} (h : TmBox p T t w O) : ∃ q, BoxT w p q t := by
  obtain ⟨q, h1, _, h3⟩ := h
  exact ⟨q, h1, TmS.all h3⟩
theorem mul_in {a b : Nat} {c d : Nat} (h1 : a ≤ c) (h2 : b ≤ d) : 0 ≤ (a : Int) * b ∧ (a : Int) * b ≤ (c * d : Nat) := by
  have := Nat.mul_le_mul h1 h2
  have e : (a : Int) * b = ((a * b : Nat) : Int) := by push_cast; rfl
  omega
theorem meas_w {a : Tm} (h : Whole a) : (measP a).1 = (sizeT a : Int) := by rw [meas_yes h.ok]
theorem puts_of {t u v : Tm} (ht : Whole t) (hu : Whole u) (hv : Whole v) (g1 : ¬ 15000 < (sizeT t : Int) * sizeT u) (g2 : ¬ 15000 < (sizeT t : Int) * sizeT u * sizeT v) : PutsOk t u v := by
  have e1 : ((sizeT t * sizeT u : Nat) : Int) = (sizeT t : Int) * sizeT u := by push_cast; rfl
  have e2 : ((sizeT t * sizeT u * sizeT v : Nat) : Int) = (sizeT t : Int) * sizeT u * sizeT v := by push_cast; rfl
  exact puts_ok ht hu hv (by omega) (by omega)
set_option maxRecDepth 100000 in
set_option maxHeartbeats 4000000 in
theorem termPuts_calls (t u v : Tm) (pt pu pv : Pl) (w : World) (h0 : TmIn w w.heap.size pt t) (h1 : TmIn w w.heap.size pu u) (h2 : TmIn w w.heap.size pv v) :
    Calls Try.prog 9 #[tmV pt t, tmV pu u, tmV pv v] w fun e w' => e = .returned (.bool true) ∧ Below w.heap.size w w' := by
  obtain ⟨W, hW⟩ : ∃ W, W = ((w.alloc (tmO pt t)).alloc (tmO pu u)).alloc (tmO pv v) := ⟨_, rfl⟩
  have hb : Below w.heap.size w W := by rw [hW]; exact below_alloc (below_alloc (below_alloc (Below.refl _ _) _) _) _
  have hv2 : W.heap[w.heap.size + 1 + 1]? = some (tmO pv v) := by
    rw [hW]
    have := blk_new ((w.alloc (tmO pt t)).alloc (tmO pu u)) (tmO pv v)
    simp only [World.size_alloc] at this
    exact this
  have H0 := Aside0.mk (show ThreeB w W pt pu pv t u v from ⟨by rw [hW]; exact blk_alloc (box0 w _ _) _, by rw [hW]; exact blk_alloc (box1 w _ _) _, hv2, hb, h0.stay hb, h1.stay hb, h2.stay hb⟩)
  clear h0 h1 h2 hb hv2
  unfold tmV
  unfold tmO at hW
  go_enter Try.func9, Try.ntmps9
  go_upto_region 1 with (fail)
  rw [← hW]
  clear hW
  obtain ⟨wb, hwb⟩ : ∃ x, wholeB [t, u, v] = x := ⟨_, rfl⟩
  cases wb with
  | false =>
    refine tp1n_region W w.heap.size w.heap.size pt t (w.heap.size + 1) pu u (w.heap.size + 1 + 1) pv v H0.out.bel.size H0.out.b0 H0.out.i0 H0.out.b1 H0.out.i1 H0.out.b2 H0.out.i2 hwb ?_
    intro w1 u13 O3 hch _ _
    have HS1 := Aside0.mk (H0.out.later (hch.below (fun _ h => h.elim False.elim False.elim) (Nat.le_refl _)))
    clear hch
    go_wp2_with (go_at_call 25; go_must (refine (awake_calls w1).mono ?_; rintro e w2 ⟨rfl, hb⟩; have HS2 := Aside0.mk (HS1.out.later hb); clear hb))
    go_ret
    exact ⟨rfl, HS2.out.bel⟩
  | true =>
    have hall := List.all_eq_true.1 hwb
    have HWT := Aside0.mk (whole_of (of_decide_eq_true (hall t (by simp))))
    have HWU := Aside0.mk (whole_of (of_decide_eq_true (hall u (by simp))))
    have HWV := Aside0.mk (whole_of (of_decide_eq_true (hall v (by simp))))
    have m1 := mul_in HWT.out.size HWU.out.size
    have m2 := mul_in (a := sizeT t * sizeT u) (c := 160000) (Nat.mul_le_mul HWT.out.size HWU.out.size) HWV.out.size
    rw [show ((sizeT t * sizeT u : Nat) : Int) = (sizeT t : Int) * sizeT u by push_cast; rfl] at m2
    have HA := Aside0.mk (meas_w HWT.out)
    have HB := Aside0.mk (meas_w HWU.out)
    have HC := Aside0.mk (meas_w HWV.out)
    have HPO := Aside0.mk (show ¬ 15000 < (sizeT t : Int) * sizeT u → ¬ 15000 < (sizeT t : Int) * sizeT u * sizeT v → PutsOk t u v from fun g1 g2 => puts_of HWT.out HWU.out HWV.out g1 g2)
    obtain ⟨sa, hsa⟩ : ∃ z, (sizeT t : Int) = z := ⟨_, rfl⟩
    obtain ⟨sb, hsb⟩ : ∃ z, (sizeT u : Int) = z := ⟨_, rfl⟩
    obtain ⟨sc, hsc⟩ : ∃ z, (sizeT v : Int) = z := ⟨_, rfl⟩
    rw [hsa, hsb] at HPO m1 m2
    rw [hsc] at HPO m2
    rw [hsa] at HA
    rw [hsb] at HB
    rw [hsc] at HC
    clear hall hsa hsb hsc
    by_cases g1 : 15000 < sa * sb
    · refine tp1b_region W w.heap.size w.heap.size pt t (w.heap.size + 1) pu u (w.heap.size + 1 + 1) pv v sa sb sc H0.out.bel.size H0.out.b0 H0.out.i0 H0.out.b1 H0.out.i1 H0.out.b2 H0.out.i2 hwb HA.out HB.out HC.out (by omega) (by omega) g1 ?_
      intro w1 u13 O3 hch _ _
      have HS1 := Aside0.mk (H0.out.later (hch.below (fun _ h => h.elim False.elim False.elim) (Nat.le_refl _)))
      clear hch
      go_wp2_with (go_at_call 25; go_must (refine (awake_calls w1).mono ?_; rintro e w2 ⟨rfl, hb⟩; have HS2 := Aside0.mk (HS1.out.later hb); clear hb))
      go_ret
      exact ⟨rfl, HS2.out.bel⟩
    · by_cases g2 : 15000 < sa * sb * sc
      · refine tp1c_region W w.heap.size w.heap.size pt t (w.heap.size + 1) pu u (w.heap.size + 1 + 1) pv v sa sb sc H0.out.bel.size H0.out.b0 H0.out.i0 H0.out.b1 H0.out.i1 H0.out.b2 H0.out.i2 hwb HA.out HB.out HC.out (by omega) (by omega) g1 g2 ?_
        intro w1 u13 O3 hch _ _
        have HS1 := Aside0.mk (H0.out.later (hch.below (fun _ h => h.elim False.elim False.elim) (Nat.le_refl _)))
        clear hch
        go_wp2_with (go_at_call 25; go_must (refine (awake_calls w1).mono ?_; rintro e w2 ⟨rfl, hb⟩; have HS2 := Aside0.mk (HS1.out.later hb); clear hb))
        go_ret
        exact ⟨rfl, HS2.out.bel⟩
      · have HP := Aside0.mk (HPO.out g1 g2)
        refine tp1d_region W w.heap.size w.heap.size pt t (w.heap.size + 1) pu u (w.heap.size + 1 + 1) pv v sa sb sc H0.out.bel.size H0.out.b0 H0.out.i0 H0.out.b1 H0.out.i1 H0.out.b2 H0.out.i2 hwb HA.out HB.out HC.out (by omega) (by omega) g1 g2 ?_
        intro w1 u13 O3 hch _ _
        have HS1 := Aside0.mk (H0.out.later (hch.below (fun _ h => h.elim False.elim False.elim) (Nat.le_refl _)))
        clear hch
        clear H0 g1 g2 m1 m2 hwb HPO
        go_upto_region 3 with (fail)
        refine tp3_region w1 w.heap.size w.heap.size pt t (w.heap.size + 1) pu u (w.heap.size + 1 + 1) pv v HS1.out.bel.size HS1.out.b0 HS1.out.i0 HS1.out.b1 HS1.out.i1 HS1.out.b2 HS1.out.i2 ?_
        rintro w3 u7 u38 u40 v6 O6 hch ⟨p7, rfl, hx7⟩ _
        obtain ⟨q7, hx7⟩ := hx7.box
        have hb3 := hch.below (fun _ h => h.elim False.elim False.elim) (Nat.le_refl _)
        have HS3 := Aside0.mk (HS1.out.later hb3)
        have HX3 := Aside0.mk hx7
        clear hch hb3 hx7 HS1
        go_upto_region 4 with (fail)
        refine tp4_region w3 w.heap.size w.heap.size pt t (w.heap.size + 1 + 1) pv v HS3.out.bel.size HS3.out.b0 HS3.out.i0 HS3.out.b2 HS3.out.i2 ?_
        rintro w4 u8 u41 u43 u45 O0 v6' O6' hch _ _ ⟨p8, rfl, hx8⟩ _
        obtain ⟨q8, hx8⟩ := hx8.box
        rw [HP.out.un] at hx8
        have hb4 := hch.below (fun _ h => h.elim False.elim False.elim) (Nat.le_refl _)
        have HS4 := Aside0.mk (HS3.out.later hb4)
        have HX4 := Aside0.mk (HX3.out.later hb4)
        have HY4 := Aside0.mk hx8
        clear hch hb4 hx8 HS3 HX3
        obtain ⟨c0, -, -, -, -, -, -, c7⟩ := row8 HY4.out.x
        replace c0 : w4.cell? ⟨p8, 0, none⟩ = some (.int .i64 4) := c0
        replace c7 : w4.cell? ⟨p8, 7, none⟩ = some (.slice q8.K 2 q8.e) := c7
        go_upto_region 7 with (fail)
        clear c0 c7
        obtain ⟨qq, hqq⟩ := HY4.out.i.kid
        obtain ⟨⟨gd, od, hK, hgd, hcb⟩, hkin⟩ := hqq 1 _ rfl
        have hlen := HY4.out.i.len
        have cb := fun (j : Nat) (z : Value) (h : (tmC (qq 1) (rebP (instF v) (canT t 0) 1))[j]? = some z) => hcb j z h
        refine tp7_region w4 w4.heap.size (w.heap.size + 1) pu u (w.heap.size + 1 + 1) pv v p8 q8 _ gd od (qq 1) (rebP (instF v) (canT t 0) 1) (Nat.le_refl _) HS4.out.b1 (TmS.all HS4.out.i1) HS4.out.b2 (TmS.all HS4.out.i2) HY4.out.x HY4.out.i hK rfl ⟨hlen.1, hlen.2⟩ hgd
          (cb 0 _ rfl) (cb 1 _ rfl) (cb 2 _ rfl) (cb 3 _ rfl) (cb 4 _ rfl) (cb 5 _ rfl) (cb 6 _ rfl) (cb 7 _ rfl) hkin ?_
        rintro w5 u9 u61 u62 v9 O9 hch ⟨p9, rfl, hx9⟩ _
        obtain ⟨q9, hx9⟩ := hx9.box
        have hb5 := hch.below (fun _ h => h.elim False.elim False.elim) (Nat.le_refl _)
        have HS5 := Aside0.mk (HS4.out.later hb5)
        have HX5 := Aside0.mk (HX4.out.later hb5)
        have HY5 := Aside0.mk hx9
        clear hch hb5 hx9 HS4 HX4 HY4 hqq hK hgd hcb hkin cb hlen
        go_upto_region 8 with (fail)
        go_wp2_with (first
          | (refine wpList_load_row rfl 28 _ rfl (p7) rfl 28 _ (0, 0) _ HX5.out.x Try.underlying28 rfl (by kernel_rfl) ?_)
          | (refine wpList_load_row rfl 28 _ rfl (p9) rfl 28 _ (0, 0) _ HY5.out.x Try.underlying28 rfl (by kernel_rfl) ?_)
          | (go_at_call 48; go_must (refine (tSame_calls _ _ q7 q9 w5 HX5.out.i HY5.out.i).mono ?_; rw [HP.out.same]; rintro e w6 ⟨rfl, hb⟩; have HS6 := Aside0.mk (HS5.out.later hb); clear hb))
          | (go_at_call 25; go_must (refine (awake_calls w6).mono ?_; rintro e w7 ⟨rfl, hb⟩; have HS7 := Aside0.mk (HS6.out.later hb); clear hb)))
        go_ret
        exact ⟨rfl, HS7.out.bel⟩
end Go.Proofs.Ytdboloabpjmgaaa

/-! LvIn -/
namespace Go.Proofs.Ytdboloabpjmgaaa
open Go.RowKit Go.Proofs.YtdboloabpjmgaaaW.PrintWords Go.RegionInvYtdboloabpjmgaaa Go.ChangeShapes Go.WideShapes Go.Deep

instance : Inhabited Lv := ⟨.mk 0 0 []⟩
set_option maxRecDepth 100000 in
theorem lv_open {H : Type} {enc : TypeId × Value → H} {W : World} {base : Nat} {sp : Nat → Bool} {held : Bool} (F : Nat) : ∀ (fuel : Nat), fuel ≤ F → ∀ (cs : List Value) (x : DataW H × List MemPlace),
    DataW.trod enc Try.prog W base sp held fuel 25 cs = some x → ∃ (l : Lv) (A : Option Addr) (c : Nat), cs = [.int .i64 l.kind, .int .i64 l.num, .slice A l.kids.length c] ∧ LvS W (fun _ => True) A c l ∧ (Lit.int .i64 l.kind).wf = true ∧ (Lit.int .i64 l.num).wf = true := by
  induction F with
  | zero =>
    intro fuel hF cs x h
    obtain ⟨xs, n, hn, _⟩ := DataW.trod_struct Try.underlying25 h
    omega
  | succ F ih =>
    intro fuel hF cs x h
    obtain ⟨xs, n, hn, hx, hl, hxl, hf⟩ := DataW.trod_struct Try.underlying25 h
    have hl3 : cs.length = 3 := by rw [hl]; kernel_rfl
    match xs, hxl, cs, hl3 with
    | [y0, y1, y2], _, [v0, v1, v2], _ =>
      have g0 : DataW.trod enc Try.prog W base sp held n 3 [v0] = some y0 := hf 0 _ rfl
      have g1 : DataW.trod enc Try.prog W base sp held n 3 [v1] = some y1 := hf 1 _ rfl
      have g2 : DataW.trod enc Try.prog W base sp held n 23 [v2] = some y2 := hf 2 _ rfl
      obtain ⟨k, e0, _, w0⟩ := DataW.trod_int Try.underlying3 g0
      obtain ⟨m, e1, _, w1⟩ := DataW.trod_int Try.underlying3 g1
      obtain rfl : v0 = .int .i64 k := by simpa using e0
      obtain rfl : v1 = .int .i64 m := by simpa using e1
      rcases DataW.trod_slice Try.underlying23 g2 with ⟨e2, _⟩ | ⟨a, len, cap, elems, rest, n', hn', e2, _, _, hle, hm, hlen, hel, _, _⟩
      · obtain rfl : v2 = .slice none 0 0 := by simpa using e2
        exact ⟨.mk k m [], none, 0, rfl, .mk (fun _ => none) (fun _ => 0) (by simp) (by omega) (fun i x hx => by simp at hx) (fun i x hx => by simp at hx), w0, w1⟩
      · obtain rfl : v2 = .slice (some a) len cap := by simpa using e2
        have hc3 : Try.prog.cellsOf 25 = 3 := by kernel_rfl
        rw [hc3] at hel
        have each : ∀ i, i < len → ∃ q : Lv × Option Addr × Nat, W.cells? base (a.add (i * 3)) 3 = some [.int .i64 q.1.kind, .int .i64 q.1.num, .slice q.2.1 q.1.kids.length q.2.2] ∧ LvS W (fun _ => True) q.2.1 q.2.2 q.1 := by
          intro i hi
          have hq := hel i hi
          rw [List.getElem?_eq_getElem (by omega)] at hq
          obtain ⟨cs', h1, h2⟩ := Option.bind_eq_some_iff.1 hq
          obtain ⟨l, A, c, rfl, h3, _⟩ := ih n' (by omega) cs' _ h2
          exact ⟨(l, A, c), h1, h3⟩
        obtain ⟨q, hq⟩ := choose_lt each
        have hcell : ∀ i, i < len → ∀ j, j < 3 → W.cell? ((a.add (i * 3)).add j) = ([.int .i64 (q i).1.kind, .int .i64 (q i).1.num, .slice (q i).2.1 (q i).1.kids.length (q i).2.2] : List Value)[j]? := fun i hi j hj => (World.cells?_some (hq i hi).1).2.2 j hj
        have hget : ∀ (i : Nat) (x : Lv), ((List.range len).map fun i => (q i).1)[i]? = some x → i < len ∧ x = (q i).1 := by
          intro i x hx
          have hi : i < len := by
            rcases Nat.lt_or_ge i len with h | h
            · exact h
            · rw [List.getElem?_eq_none (by simpa using h)] at hx; cases hx
          rw [List.getElem?_map, List.getElem?_range hi] at hx
          exact ⟨hi, (Option.some.inj hx).symm⟩
        refine ⟨.mk k m ((List.range len).map fun i => (q i).1), some a, cap, by simp [Lv.kind, Lv.num, Lv.kids], .mk (fun i => (q i).2.1) (fun i => (q i).2.2) (by simpa using hle) (by simp only [maxLen] at hm; omega) (fun i x hx => ?_) (fun i x hx => ?_), w0, w1⟩
        · obtain ⟨hi, rfl⟩ := hget i x hx
          have hsp : a.spot = none := by
            have h0 := hcell 0 (by omega) 0 (by omega)
            simp only [Nat.zero_mul, Addr.add, if_true] at h0
            cases hs : a.spot with
            | none => rfl
            | some z => simp [World.cell?, hs] at h0; split at h0 <;> simp at h0
          obtain ⟨b, o, z⟩ := a
          obtain rfl : z = none := hsp
          have c0 := hcell i hi 0 (by omega)
          have c1 := hcell i hi 1 (by omega)
          have c2 := hcell i hi 2 (by omega)
          simp only [add_flat] at c0 c1 c2
          exact ⟨_, rfl, trivial, rfl, by rw [add_flat]; exact c0, by rw [add_flat]; exact c1, by rw [add_flat]; exact c2⟩
        · obtain ⟨hi, rfl⟩ := hget i x hx
          exact (hq i hi).2
end Go.Proofs.Ytdboloabpjmgaaa

/-! LvsIn -/
namespace Go.Proofs.Ytdboloabpjmgaaa
open Go.RowKit Go.Proofs.YtdboloabpjmgaaaW.PrintWords Go.RegionInvYtdboloabpjmgaaa Go.ChangeShapes Go.WideShapes Go.Deep

set_option maxRecDepth 100000 in
theorem lvs_open {H : Type} {enc : TypeId × Value → H} {W : World} {base : Nat} {sp : Nat → Bool} {held : Bool} {fuel : Nat} {v2 : Value} {y2 : DataW H × List MemPlace} (g2 : DataW.trod enc Try.prog W base sp held fuel 23 [v2] = some y2) :
    ∃ (vs : List Lv) (A : Option Addr) (c : Nat), v2 = .slice A vs.length c ∧ LvS W (fun _ => True) A c (.mk 0 0 vs) := by
  rcases DataW.trod_slice Try.underlying23 g2 with ⟨e2, _⟩ | ⟨a, len, cap, elems, rest, n', hn', e2, _, _, hle, hm, hlen, hel, _, _⟩
  · obtain rfl : v2 = .slice none 0 0 := by simpa using e2
    exact ⟨[], none, 0, rfl, .mk (fun _ => none) (fun _ => 0) (by simp) (by omega) (fun i x hx => by simp at hx) (fun i x hx => by simp at hx)⟩
  · obtain rfl : v2 = .slice (some a) len cap := by simpa using e2
    have hc3 : Try.prog.cellsOf 25 = 3 := by kernel_rfl
    rw [hc3] at hel
    have each : ∀ i, i < len → ∃ q : Lv × Option Addr × Nat, W.cells? base (a.add (i * 3)) 3 = some [.int .i64 q.1.kind, .int .i64 q.1.num, .slice q.2.1 q.1.kids.length q.2.2] ∧ LvS W (fun _ => True) q.2.1 q.2.2 q.1 := by
      intro i hi
      have hq := hel i hi
      rw [List.getElem?_eq_getElem (by omega)] at hq
      obtain ⟨cs', h1, h2⟩ := Option.bind_eq_some_iff.1 hq
      obtain ⟨l, A, c, rfl, h3, _⟩ := lv_open n' n' (Nat.le_refl _) cs' _ h2
      exact ⟨(l, A, c), h1, h3⟩
    obtain ⟨q, hq⟩ := choose_lt each
    have hcell : ∀ i, i < len → ∀ j, j < 3 → W.cell? ((a.add (i * 3)).add j) = ([.int .i64 (q i).1.kind, .int .i64 (q i).1.num, .slice (q i).2.1 (q i).1.kids.length (q i).2.2] : List Value)[j]? := fun i hi j hj => (World.cells?_some (hq i hi).1).2.2 j hj
    have hget : ∀ (i : Nat) (x : Lv), ((List.range len).map fun i => (q i).1)[i]? = some x → i < len ∧ x = (q i).1 := by
      intro i x hx
      have hi : i < len := by
        rcases Nat.lt_or_ge i len with h | h
        · exact h
        · rw [List.getElem?_eq_none (by simpa using h)] at hx; cases hx
      rw [List.getElem?_map, List.getElem?_range hi] at hx
      exact ⟨hi, (Option.some.inj hx).symm⟩
    refine ⟨(List.range len).map fun i => (q i).1, some a, cap, by simp, .mk (fun i => (q i).2.1) (fun i => (q i).2.2) (by simpa using hle) (by simp only [maxLen] at hm; omega) (fun i x hx => ?_) (fun i x hx => ?_)⟩
    · obtain ⟨hi, rfl⟩ := hget i x hx
      have hsp : a.spot = none := by
        have h0 := hcell 0 (by omega) 0 (by omega)
        simp only [Nat.zero_mul, Addr.add, if_true] at h0
        cases hs : a.spot with
        | none => rfl
        | some z => simp [World.cell?, hs] at h0; split at h0 <;> simp at h0
      obtain ⟨b, o, z⟩ := a
      obtain rfl : z = none := hsp
      have c0 := hcell i hi 0 (by omega)
      have c1 := hcell i hi 1 (by omega)
      have c2 := hcell i hi 2 (by omega)
      simp only [add_flat] at c0 c1 c2
      exact ⟨_, rfl, trivial, rfl, by rw [add_flat]; exact c0, by rw [add_flat]; exact c1, by rw [add_flat]; exact c2⟩
    · obtain ⟨hi, rfl⟩ := hget i x hx
      exact (hq i hi).2
end Go.Proofs.Ytdboloabpjmgaaa

/-! TmInT -/
namespace Go.Proofs.Ytdboloabpjmgaaa
open Go.RowKit Go.Proofs.YtdboloabpjmgaaaW.PrintWords Go.RegionInvYtdboloabpjmgaaa Go.ChangeShapes Go.WideShapes Go.Deep

section
variable {H : Type} {enc : TypeId × Value → H} {W : World} {base : Nat} {sp : Nat → Bool} {held : Bool}
def Sized (t : TypeId) (d : DataW H) : Prop := (DataW.weights Try.prog t d).all (· ≤ reachBytes) = true
theorem all_at {t : TypeId} : ∀ {l : List (DataW H)}, (DataW.weightsAll Try.prog t l).all (· ≤ reachBytes) = true → ∀ (i : Nat) (d : DataW H), l[i]? = some d → Sized t d
  | [], _, i, d, h => by simp at h
  | x :: r, hw, i, d, h => by
    rw [DataW.weightsAll, List.all_append, Bool.and_eq_true] at hw
    cases i with
    | zero => simp at h; subst h; exact hw.1
    | succ j => exact all_at hw.2 j d (by simpa using h)
theorem each_at : ∀ {ts : List TypeId} {l : List (DataW H)}, (DataW.weightsEach Try.prog ts l).all (· ≤ reachBytes) = true → ∀ (i : Nat) (t : TypeId) (d : DataW H), ts[i]? = some t → l[i]? = some d → Sized t d
  | [], l, _, i, t, d, h, _ => by simp at h
  | _ :: _, [], _, i, t, d, _, h => by simp at h
  | s :: ts, x :: r, hw, i, t, d, ht, hd => by
    rw [DataW.weightsEach, List.all_append, Bool.and_eq_true] at hw
    cases i with
    | zero => simp at ht hd; subst ht; subst hd; exact hw.1
    | succ j => exact each_at hw.2 j t d (by simpa using ht) (by simpa using hd)
theorem sized_agg {t : TypeId} {fs : Array Field} {ps : List (DataW H)} (hu : Try.prog.underlying t = some (.struct fs)) (h : Sized t (.agg ps)) : ∀ (i : Nat) (f : Field) (d : DataW H), fs[i]? = some f → ps[i]? = some d → Sized f.type d := by
  unfold Sized at h
  rw [DataW.weights, hu] at h
  intro i f d hf hd
  exact each_at h i f.type d (by simp [hf]) hd
theorem sized_slices {t e : TypeId} {es rs : List (DataW H)} (hu : Try.prog.underlying t = some (.slice e)) (h : Sized t (.slice es rs)) : (es.length + rs.length) * Try.prog.bytesOf e ≤ 140737488351232 ∧ ∀ (i : Nat) (d : DataW H), es[i]? = some d → Sized e d := by
  unfold Sized at h
  rw [DataW.weights, hu] at h
  simp only [List.all_cons, List.all_append, Bool.and_eq_true, decide_eq_true_eq] at h
  exact ⟨h.1, fun i d hd => all_at h.2.1 i d hd⟩
theorem sized_str {t : TypeId} {s : List UInt8} (h : Sized (H := H) t (.lit (.string s))) : s.length ≤ 140737488351232 := by
  unfold Sized at h
  rw [DataW.weights] at h
  have h' : s.length ≤ reachBytes := by simpa using h
  exact h'
theorem lvs_len {fuel : Nat} {v : Value} {y : DataW H × List MemPlace} (g : DataW.trod enc Try.prog W base sp held fuel 23 [v] = some y) (hw : Sized 23 y.1) {A : Option Addr} {n c : Nat} (he : v = .slice A n c) : n * 40 ≤ 140737488355328 := by
  subst he
  rcases DataW.trod_slice Try.underlying23 g with ⟨e2, _⟩ | ⟨a, len, cap, elems, rest, n', hn', e2, hy, _, hle, hm, hlen, hel, _, _⟩
  · have : n = 0 := by simp at e2; exact e2.2.1
    omega
  · have : n = len := by simp at e2; exact e2.2.1
    subst this
    subst hy
    have h := (sized_slices Try.underlying23 hw).1
    rw [show Try.prog.bytesOf 25 = 40 by kernel_rfl] at h
    simp only [List.length_map] at h
    have := Nat.le_mul_of_pos_right elems.length (show 0 < 40 by decide)
    have h2 : n * 40 ≤ (elems.length + rest.length) * 40 := Nat.mul_le_mul_right _ (by omega)
    omega
theorem plain_addr {a : Addr} {v : Value} (h : W.cell? a = some v) : a.spot = none := by
  cases hs : a.spot with
  | none => rfl
  | some z => simp [World.cell?, hs] at h; split at h <;> simp at h
theorem int_range {n : Int} (h : (Lit.int .i64 n).wf = true) : -9223372036854775808 ≤ n ∧ n ≤ 9223372036854775807 := by simpa [Lit.wf, IntKind.min, IntKind.max, IntKind.signed, IntKind.bits] using h
set_option maxRecDepth 100000 in
set_option maxHeartbeats 4000000 in
theorem tm_open (F : Nat) : ∀ (fuel : Nat), fuel ≤ F → ∀ (cs : List Value) (x : DataW H × List MemPlace), DataW.trod enc Try.prog W base sp held fuel 28 cs = some x → Sized 28 x.1 →
    ∃ (t : Tm) (p : Pl), cs = tmC p t ∧ TmS W (fun _ => True) p t := by
  induction F with
  | zero =>
    intro fuel hF cs x h
    obtain ⟨xs, n, hn, _⟩ := DataW.trod_struct Try.underlying28 h
    omega
  | succ F ih =>
    intro fuel hF cs x h hw
    obtain ⟨xs, n, hn, hx, hl, hxl, hf⟩ := DataW.trod_struct Try.underlying28 h
    have hl8 : cs.length = 8 := by rw [hl]; kernel_rfl
    match xs, hxl, cs, hl8 with
    | [y0, y1, y2, y3, y4, y5], _, [v0, v1, v2, v3, v4, v5, v6, v7], _ =>
      subst hx
      have g0 : DataW.trod enc Try.prog W base sp held n 3 [v0] = some y0 := hf 0 _ rfl
      have g1 : DataW.trod enc Try.prog W base sp held n 3 [v1] = some y1 := hf 1 _ rfl
      have g2 : DataW.trod enc Try.prog W base sp held n 9 [v2] = some y2 := hf 2 _ rfl
      have g3 : DataW.trod enc Try.prog W base sp held n 25 [v3, v4, v5] = some y3 := hf 3 _ rfl
      have g4 : DataW.trod enc Try.prog W base sp held n 23 [v6] = some y4 := hf 4 _ rfl
      have g5 : DataW.trod enc Try.prog W base sp held n 26 [v7] = some y5 := hf 5 _ rfl
      have z2 : Sized 9 y2.1 := sized_agg Try.underlying28 hw 2 _ _ rfl rfl
      have z4 : Sized 23 y4.1 := sized_agg Try.underlying28 hw 4 _ _ rfl rfl
      have z5 : Sized 26 y5.1 := sized_agg Try.underlying28 hw 5 _ _ rfl rfl
      obtain ⟨k, e0, _, w0⟩ := DataW.trod_int Try.underlying3 g0
      obtain ⟨m, e1, _, w1⟩ := DataW.trod_int Try.underlying3 g1
      obtain ⟨s, e2, e2', _⟩ := DataW.trod_string Try.underlying9 g2
      obtain rfl : v0 = .int .i64 k := by simpa using e0
      obtain rfl : v1 = .int .i64 m := by simpa using e1
      obtain rfl : v2 = .string s := by simpa using e2
      have hs : s.size ≤ 140737488355328 := by
        rw [e2'] at z2
        have := sized_str z2
        simp at this
        have e : s.size = s.data.size := rfl
        omega
      obtain ⟨l, A, c, e3, hlv, _, _⟩ := lv_open n n (Nat.le_refl _) _ _ g3
      obtain ⟨ls, B, d, rfl, hls⟩ := lvs_open g4
      have hll := lvs_len g4 z4 rfl
      obtain ⟨rfl, rfl, rfl⟩ : v3 = .int .i64 l.kind ∧ v4 = .int .i64 l.num ∧ v5 = .slice A l.kids.length c := by simpa using e3
      have hfit : Fit m s ls := ⟨int_range w1, hs, hll⟩
      rcases DataW.trod_slice Try.underlying26 g5 with ⟨e5, _⟩ | ⟨a, len, cap, elems, rest, n', hn', e5, hy, _, hle, hm, hlen, hel, _, _⟩
      · obtain rfl : v7 = .slice none 0 0 := by simpa using e5
        exact ⟨.mk k m s l ls [], ⟨A, c, B, d, none, 0⟩, rfl, .mk (fun _ => default) hlv hls (by simp) (by simp) hfit (fun i x hx => by simp at hx) (fun i x hx => by simp at hx)⟩
      · obtain rfl : v7 = .slice (some a) len cap := by simpa using e5
        subst hy
        have hz := (sized_slices Try.underlying26 z5).2
        have hc8 : Try.prog.cellsOf 28 = 8 := by kernel_rfl
        rw [hc8] at hel
        have each : ∀ i, i < len → ∃ q : Tm × Pl, W.cells? base (a.add (i * 8)) 8 = some (tmC q.2 q.1) ∧ TmS W (fun _ => True) q.2 q.1 := by
          intro i hi
          have hq := hel i hi
          rw [List.getElem?_eq_getElem (by omega)] at hq
          obtain ⟨cs', h1, h2⟩ := Option.bind_eq_some_iff.1 hq
          obtain ⟨t, p, rfl, h3⟩ := ih n' (by omega) cs' _ h2 (hz i _ (by rw [List.getElem?_map, List.getElem?_eq_getElem (by omega)]; rfl))
          exact ⟨(t, p), h1, h3⟩
        obtain ⟨q, hq⟩ := choose_lt each
        have hcell : ∀ i, i < len → ∀ j, j < 8 → W.cell? ((a.add (i * 8)).add j) = (tmC (q i).2 (q i).1)[j]? := fun i hi j hj => (World.cells?_some (hq i hi).1).2.2 j hj
        have hget : ∀ (i : Nat) (x : Tm), ((List.range len).map fun i => (q i).1)[i]? = some x → i < len ∧ x = (q i).1 := by
          intro i x hx
          have hi : i < len := by
            rcases Nat.lt_or_ge i len with h | h
            · exact h
            · rw [List.getElem?_eq_none (by simpa using h)] at hx; cases hx
          rw [List.getElem?_map, List.getElem?_range hi] at hx
          exact ⟨hi, (Option.some.inj hx).symm⟩
        refine ⟨.mk k m s l ls ((List.range len).map fun i => (q i).1), ⟨A, c, B, d, some a, cap⟩, by simp [tmC, Tm.kind, Tm.num, Tm.name, Tm.lv, Tm.ls, Tm.kids], .mk (fun i => (q i).2) hlv hls (by simpa using hle) (by simp only [maxLen] at hm; exact hm) hfit (fun i x hx => ?_) (fun i x hx => ?_)⟩
        · obtain ⟨hi, rfl⟩ := hget i x hx
          have h0 := hcell 0 (by omega) 0 (by omega)
          simp only [Nat.zero_mul, Addr.add, if_true] at h0
          have hsp : a.spot = none := plain_addr (h0.trans (by rfl))
          obtain ⟨b, o, z⟩ := a
          obtain rfl : z = none := hsp
          refine ⟨b, o, rfl, trivial, fun j v hv => ?_⟩
          have hj : j < 8 := by
            rcases Nat.lt_or_ge j 8 with h | h
            · exact h
            · rw [List.getElem?_eq_none (by rw [tmC_len]; exact h)] at hv; cases hv
          have c0 := hcell i hi j hj
          simp only [add_flat] at c0
          rw [c0]
          exact hv
        · obtain ⟨hi, rfl⟩ := hget i x hx
          exact (hq i hi).2
set_option maxRecDepth 100000 in
theorem tm_in {v : Value} {d : DataW H} {ps : List MemPlace} {r : Reach} {b0 : Nat} (hv : Value.okWide Try.prog W r b0 28 v) (h : DataW.Trod enc Try.prog W base sp held 28 v d ps) (hw : Sized 28 d) :
    ∃ (t : Tm) (p : Pl), v = tmV p t ∧ TmS W (fun _ => True) p t := by
  obtain ⟨cs, rfl, hcs⟩ := okWide_struct Try.underlying28 hv
  obtain ⟨fuel, hf⟩ := h
  obtain ⟨t, p, he, ht⟩ := tm_open fuel fuel (Nat.le_refl _) _ _ hf hw
  refine ⟨t, p, ?_, ht⟩
  unfold tmV
  congr 1
  apply Array.toList_inj.1
  simpa [Value.cells, tmC] using he

end
end Go.Proofs.Ytdboloabpjmgaaa
